/- The functions of this program do what the plain ones do. -/
import Derived.Test.YtlbnmldopjadoaaGreatC2
namespace Go.Proofs.YtlbnmldopjadoaaGreat
open Go Go.Vm
set_option linter.unusedVariables false
set_option maxHeartbeats 4000000
set_option maxRecDepth 4000
variable {qIu8:Vm.RW Int} {qGEx:Vm.RW GEx} {qGRule:Vm.RW GRule} {qStr:Vm.RW ByteArray} {qInt:Vm.RW Int} {qGExO:Vm.RW GEx} {qGOcc:Vm.RW GOcc} {qGNode:Vm.RW GNode} {qGNodeS:Vm.RW GNode} {qGGraphS2:Vm.RW GGraph} {qGGraph:Vm.RW GGraph} {qGEv:Vm.RW GEv} {qGFire:Vm.RW GFire} {qGOccO:Vm.RW GOcc} {qLGOcc:Vm.RW (List GOcc)} {qBool:Vm.RW Bool} {qGGraphS:Vm.RW GGraph} {qLInt:Vm.RW (List Int)} (hQ:EQ qIu8 qGEx qGRule qStr qInt qGExO qGOcc qGNode qGNodeS qGGraphS2 qGGraph qGEv qGFire qGOccO qLGOcc qBool qGGraphS qLInt)
include hQ
theorem lI {k:Nat} {p0:List GOcc} {p1:GOcc} {r:List GOcc} (hh:cl.f k p0 p1=some r):ah P 257 [oA 3 (qGOcc p0),.agg [iA p1.From,iA p1.To,tA (qInt p1.Ids)]] [hA,hA] (oA 3 (qGOcc r)):=by
 obtain⟨p1a,p1b,p1c⟩:=p1
 unfold cl.f at hh
 refine gq [5] [] [] [(4,none)] [.own] [.skip,.skip] Tryz.func257 ?_
 unhygienic intros
 cbv
 obtain⟨o1,A,hq1⟩:=ag hh
 refine lgq [5] [] [] hC (cl.l0 k p0 (⟨p1a,p1b,p1c⟩:GOcc))
  (fun d=>⟨[(0,rA (0,0) (len (qGOcc p0))),(3,mA (3,0)),(5,iA d),(1000000,rA (0,0) (len (qGOcc p0)))],[((0,0),.arr 1 3 (qGOcc p0)),((3,0),.box 1 [iA p1a,iA p1b,tA (qInt p1c)])]⟩)
  (fun(j:Int)=>⟨[(0,rA (0,0) (len (qGOcc p0))),(3,mA (3,0)),(5,iA j),(1000000,rA (0,0) (len (qGOcc p0)))],[((0,0),.arr 1 3 (qGOcc p0)),((3,0),.box 1 [iA p1a,iA p1b,tA (qInt p1c)])]⟩) (fun x=>x) (.exit 0)
  (i0:=_) A (fun t0 e=>kA) ?_ ?_
 rintro j hx
 subst o1
 have hh:=hq1
 cbv
 refine bcs (fun b=>?_) (fun b=>?_)
 replace hh:=ifT hh b
 try rw[b]
 cbv
 obtain⟨B,hh⟩:=ae hh
 obtain⟨C,hh⟩:=ae hh
 refine⟨Nb B,Mb C,?_⟩
 obtain⟨⟨o,p,s⟩,F,hh⟩:=ag hh
 try dsimp only at hh
 refine⟨[iA o,iA p,tA (qInt s)],Gb F,?_⟩
 cbv
 obtain⟨HP,G,hh⟩:=ag hh
 refine ak hF (nq hQ G) ?_
 cbv
 refine bcs (fun c=>?_) (fun c=>?_)
 replace hh:=ifT hh c
 try rw[c]
 cbv
 refine tR hC (bH [5] [] []) mixed ⟨[(0,rA (0,0) (len (qGOcc p0))),(1000000,rA (0,0) (len (qGOcc p0)))],[((0,0),.arr 1 3 (qGOcc p0))]⟩ ?_ ?_
 ·cbv
  refine qC ?_
  cbv
  all_goals exact Zb
 cbv
 exact Eb
 replace hh:=ifF hh c
 try rw[c]
 cbv
 obtain⟨H,hh⟩:=ae hh
 obtain⟨I,hh⟩:=ae hh
 obtain⟨J,hh⟩:=ae hh
 refine⟨⟨Nb H,Nb I,Nb J⟩,?_⟩
 obtain⟨K,hh⟩:=ae hh
 refine⟨⟨Ob,Ab,Ab⟩,?_⟩
 refine⟨⟨Ob,Wb K⟩,?_⟩
 obtain⟨L,hh⟩:=ae hh
 obtain⟨M,hh⟩:=ae hh
 obtain⟨N,hh⟩:=ae hh
 refine⟨⟨Nb L,Nb M,Nb N⟩,?_⟩
 obtain⟨⟨t,u,v⟩,O,hh⟩:=ag hh
 try dsimp only at hh
 have fc:=ah.frz (r':=.agg [iA t,iA u,tA (qInt v)]) (gQ hQ O) (by cases hQ;simp)
 try dsimp only at fc
 refine ak hF fc ?_
 cbv
 obtain⟨Q,hh⟩:=ae hh
 rw[if_pos (show(nadd 0 (toNat 0))=0∧True from⟨by cases hC;rfl,trivial⟩)]
 cbv
 refine⟨⟨Ob,Ab⟩,?_⟩
 refine⟨⟨Ob,Wb Q⟩,?_⟩
 obtain⟨Ia,hh⟩:=ae hh
 exact D
 replace hh:=ifF hh b
 try rw[b]
 cbv
 obtain⟨R,hh⟩:=ae hh
 obtain⟨S,hh⟩:=ae hh
 obtain⟨T,hh⟩:=ae hh
 refine⟨⟨Nb R,Nb S,Nb T⟩,?_⟩
 obtain⟨U,hh⟩:=ae hh
 refine⟨⟨Ob,Ab,Ab⟩,?_⟩
 refine⟨⟨Ob,Wb U⟩,?_⟩
 obtain⟨V,hh⟩:=ae hh
 obtain⟨W,hh⟩:=ae hh
 obtain⟨X,hh⟩:=ae hh
 refine⟨⟨Nb V,Nb W,Nb X⟩,?_⟩
 obtain⟨⟨w,y,z⟩,Y,hh⟩:=ag hh
 try dsimp only at hh
 have fc:=ah.frz (r':=.agg [iA w,iA y,tA (qInt z)]) (gQ hQ Y) (by cases hQ;simp)
 try dsimp only at fc
 refine ak hF fc ?_
 cbv
 obtain⟨Z,hh⟩:=ae hh
 rw[if_pos (show(nadd 0 (toNat 0))=0∧True from⟨by cases hC;rfl,trivial⟩)]
 cbv
 refine⟨⟨Ob,Ab⟩,?_⟩
 refine⟨⟨Ob,Wb Z⟩,?_⟩
 obtain⟨Ic,hh⟩:=ae hh
 exact D
 rintro n d N1 D1 hh hN1 hD1 hQ1
 unfold cl.l0 at hh
 cbv
 have c1:=@qk
 exact D

theorem eu {k:Nat} {p0:List GOcc} {p1:List GOcc} {r:List GOcc} (hh:aS.f k p0 p1=some r):ah P 242 [oA 3 (qGOcc p0),tA (qGOcc p1)] [hA,hA] (oA 3 (qGOcc r)):=by
 unfold aS.f at hh
 refine gp [(4,none)] [.own] [.skip,.skip] Tryz.func242 ?_
 unhygienic intros
 cbv
 obtain⟨o,j,hq1⟩:=ag hh
 refine lg hC (U2 (aS.l0 k p1))
  (fun⟨d,c⟩=>⟨[(0,rA (0,0) (len (qGOcc d))),(1,tA (qGOcc p1)),(5,iA c)],[((0,0),.arr 1 3 (qGOcc d))]⟩)
  (fun(b:List GOcc)=>⟨[(0,rA (0,0) (len (qGOcc b)))],[((0,0),.arr 1 3 (qGOcc b))]⟩) (fun x=>x) (.exit 0)
  (i0:=(_,_)) j (fun⟨t0,t1⟩ e=>kA) ?_ ?_
 rintro b hx
 subst o
 have hh:=hq1
 cbv
 exact Eb
 rintro n ⟨d,c⟩ p s hh hN1 hD1 hQ1
 dsimp only[U2] at hh
 unfold aS.l0 at hh
 cbv
 have c1:=@lI
 exact D

theorem xO {k:Nat} {p0:List GOcc} {r:List Bool} (hh:cU.f k p0=some r):ah P 273 [tA (qGOcc p0)] [hA] (oA 1 (qBool r)):=by
 unfold cU.f at hh
 refine gp [(2,none)] [.own] [.skip] Tryz.func273 ?_
 unhygienic intros
 cbv
 obtain⟨o,hh⟩:=ae hh
 obtain⟨p,hh⟩:=ae hh
 obtain⟨s,hh⟩:=ae hh
 refine⟨⟨Nb o,Nb p,Wb s⟩,?_⟩
 obtain⟨t,j,hq1⟩:=ag hh
 refine lg hC (U2 (cU.l0 k p0))
  (fun⟨b,d⟩=>⟨[(0,tA (qGOcc p0)),(3,rA (7,0) (len (qBool b))),(4,iA d)],[((7,0),.arr 1 1 (qBool b))]⟩)
  (fun(c:List Bool)=>⟨[(3,rA (7,0) (len (qBool c)))],[((7,0),.arr 1 1 (qBool c))]⟩) (fun x=>x) (.exit 0)
  (i0:=(_,_)) j (fun⟨t0,t1⟩ e=>kA) ?_ ?_
 rintro c hx
 subst t
 have hh:=hq1
 cbv
 exact Eb
 rintro n ⟨b,d⟩ u v hh hN1 hD1 hQ1
 dsimp only[U2] at hh
 unfold cU.l0 at hh
 cbv
 exact D
theorem tv {k:Nat} {p0:List GOcc} {r:List Bool} (hh:cU.f k p0=some r):ah P 273 [oA 3 (qGOcc p0)] [oA 3 (qGOcc p0)] (oA 1 (qBool r)):=by
  cases hQ;exact(xO .mk hh).lend (pR _) (.lend (congrArg A.tree (lC _).symm) .nil)
theorem nv {k:Nat} {p0:Int} {p1:List GOcc} {p2:List Bool} {r:(List GOcc)×(List GOcc)} (hh:aF.f k p0 p1 p2=some r):ah P 259 [iA p0,oA 3 (qGOcc p1),tA (qBool p2)] [hA,hA,hA] (.tup [tA (qGOcc r.1),oA 3 (qGOcc r.2)]):=by
 unfold aF.f at hh
 refine gp [(6,none),(7,none)] [.val,.own] [.skip,.skip,.skip] Tryz.func259 ?_
 unhygienic intros
 cbv
 obtain⟨v,c,hq1⟩:=ag hh
 refine lg hC (U2 (aF.l0 k p1 p2))
  (fun⟨w,A⟩=>⟨[(0,iA p0),(1,rA (1,0) (len (qGOcc p1))),(2,tA (qBool p2)),(8,rA (12,0) (len (qGOcc w))),(9,rA (13,0) (len (qGOcc ([]:List GOcc)))),(10,iA A),(1000001,rA (1,0) (len (qGOcc p1)))],[((1,0),.arr 1 3 (qGOcc p1)),((12,0),.arr 1 3 (qGOcc w)),((13,0),.arr 1 3 (qGOcc ([]:List GOcc)))]⟩)
  (fun(b:List GOcc)=>⟨[(0,iA p0),(1,rA (1,0) (len (qGOcc p1))),(2,tA (qBool p2)),(8,rA (12,0) (len (qGOcc b))),(9,rA (13,0) (len (qGOcc ([]:List GOcc)))),(1000001,rA (1,0) (len (qGOcc p1)))],[((1,0),.arr 1 3 (qGOcc p1)),((12,0),.arr 1 3 (qGOcc b)),((13,0),.arr 1 3 (qGOcc ([]:List GOcc)))]⟩) (fun x=>x) (.exit 0)
  (i0:=(_,_)) c (fun⟨t0,t1⟩ e=>kA) ?_ ?_
 rintro b hx
 subst v
 have hh:=hq1
 cbv
 refine bcs (fun d=>?_) (fun d=>?_)
 replace hh:=ifT hh d
 try rw[d]
 cbv
 exact Eb
 replace hh:=ifF hh d
 try rw[d]
 cbv
 refine bcs (fun j=>?_) (fun j=>?_)
 replace hh:=ifT hh j
 try rw[j]
 cbv
 exact Eb
 replace hh:=ifF hh j
 try rw[j]
 cbv
 refine bcs (fun o=>?_) (fun o=>?_)
 replace hh:=ifT hh o
 try rw[o]
 cbv
 exact D
 replace hh:=ifF hh o
 try rw[o]
 cbv
 refine bcs (fun p=>?_) (fun p=>?_)
 replace hh:=ifT hh p
 try rw[p]
 cbv
 obtain⟨C,hh⟩:=ae hh
 obtain⟨F,hh⟩:=ae hh
 obtain⟨G,hh⟩:=ae hh
 refine⟨⟨Nb C,Nb F,Nb G⟩,?_⟩
 obtain⟨v,c,hq1⟩:=ag hh
 refine lg hC (U2 (aF.l1 k p1 p2 b))
  (fun⟨y,B⟩=>⟨[(0,iA p0),(1,rA (1,0) (len (qGOcc p1))),(2,tA (qBool p2)),(8,.ref (12,0) 1 (nadd 0 (toNat 0)) (toNat (sub 1 0))),(9,rA (13,0) (len (qGOcc y))),(11,iA B),(1000001,rA (1,0) (len (qGOcc p1)))],[((1,0),.arr 1 3 (qGOcc p1)),((12,0),.arr 1 3 (qGOcc b)),((13,0),.arr 1 3 (qGOcc y))]⟩)
  (fun(s:List GOcc)=>⟨[(8,.ref (12,0) 1 (nadd 0 (toNat 0)) (toNat (sub 1 0))),(9,rA (13,0) (len (qGOcc s))),(1000001,rA (1,0) (len (qGOcc p1)))],[((1,0),.arr 1 3 (qGOcc p1)),((12,0),.arr 1 3 (qGOcc b)),((13,0),.arr 1 3 (qGOcc s))]⟩) (fun x=>x) (.exit 3)
  (i0:=(_,_)) c (fun⟨t0,t1⟩ e=>kA) ?_ ?_
 rintro s hx
 subst v
 have hh:=hq1
 cbv
 exact Eb
 rintro n ⟨y,B⟩ H I hh hN1 hD1 hQ1
 dsimp only[U2] at hh
 unfold aF.l1 at hh
 cbv
 have c1:=@nq
 exact D
 replace hh:=ifF hh p
 try rw[p]
 cbv
 obtain⟨v,c,hq1⟩:=ag hh
 refine lg hC (U2 (aF.l2 k p1 p2))
  (fun⟨t,z⟩=>⟨[(0,iA p0),(1,rA (1,0) (len (qGOcc p1))),(2,tA (qBool p2)),(8,rA (12,0) (len (qGOcc b))),(9,rA (13,0) (len (qGOcc t))),(11,iA z),(1000001,rA (1,0) (len (qGOcc p1)))],[((1,0),.arr 1 3 (qGOcc p1)),((12,0),.arr 1 3 (qGOcc b)),((13,0),.arr 1 3 (qGOcc t))]⟩)
  (fun(u:List GOcc)=>⟨[(8,rA (12,0) (len (qGOcc b))),(9,rA (13,0) (len (qGOcc u))),(1000001,rA (1,0) (len (qGOcc p1)))],[((1,0),.arr 1 3 (qGOcc p1)),((12,0),.arr 1 3 (qGOcc b)),((13,0),.arr 1 3 (qGOcc u))]⟩) (fun x=>x) (.exit 3)
  (i0:=(_,_)) c (fun⟨t0,t1⟩ e=>kA) ?_ ?_
 rintro u hx
 subst v
 have hh:=hq1
 cbv
 exact Eb
 rintro n ⟨t,z⟩ H I hh hN1 hD1 hQ1
 dsimp only[U2] at hh
 unfold aF.l2 at hh
 cbv
 exact D
 rintro n ⟨w,A⟩ H I hh hN1 hD1 hQ1
 dsimp only[U2] at hh
 unfold aF.l0 at hh
 cbv
 exact D

theorem AJ {p0:Int} {p1:Int} {r:Int} (hh:nG.f p0 p1=some r):ah P 289 [iA p0,iA p1] [hA,hA] (iA r):=by
 unfold nG.f at hh
 refine gp [(4,none)] [.own] [.skip,.skip] Tryz.func289 ?_
 unhygienic intros
 cbv
 exact D

theorem yE {k:Nat} {p0:List Int} {p1:List Int} {r:List Int} (hh:cd.f k p0 p1=some r):ah P 290 [tA (qInt p0),tA (qInt p1)] [hA,hA] (oA 1 (qInt r)):=by
 unfold cd.f at hh
 refine gp [(4,none)] [.own] [.skip,.skip] Tryz.func290 ?_
 unhygienic intros
 cbv
 obtain⟨p,o,hq1⟩:=ag hh
 refine lg hC (U3 (cd.l0 k p0 p1))
  (fun⟨b,d,j⟩=>⟨[(0,tA (qInt p0)),(1,tA (qInt p1)),(5,rA (8,0) (len (qInt b))),(6,iA d),(7,iA j)],[((8,0),.arr 1 1 (qInt b))]⟩)
  (fun(c:List Int)=>⟨[(5,rA (8,0) (len (qInt c)))],[((8,0),.arr 1 1 (qInt c))]⟩) (fun x=>x) (.exit 0)
  (i0:=(_,_,_)) o (fun⟨t0,t1,t2⟩ e=>kA) ?_ ?_
 rintro c hx
 subst p
 have hh:=hq1
 cbv
 exact Eb
 rintro n ⟨b,d,j⟩ s t hh hN1 hD1 hQ1
 dsimp only[U3] at hh
 unfold cd.l0 at hh
 cbv
 exact D

theorem rK {k:Nat} {p0:GOcc} {p1:GOcc} {r:GOcc} (hh:gl.f k p0 p1=some r):ah P 274 [.agg [iA p0.From,iA p0.To,tA (qInt p0.Ids)],.agg [iA p1.From,iA p1.To,tA (qInt p1.Ids)]] [hA,hA] (.agg [iA r.From,iA r.To,oA 1 (qInt r.Ids)]):=by
 obtain⟨p0a,p0b,p0c⟩:=p0
 obtain⟨p1a,p1b,p1c⟩:=p1
 unfold gl.f at hh
 refine gp [(4,some 67)] [.own] [.skip,.skip] Tryz.func274 ?_
 unhygienic intros
 cbv
 have c1:=@sK
 have c2:=@AJ
 have c3:=@yE
 exact D

theorem kX {k:Nat} {p0:Int} {p1:List GOcc} {p2:GOcc} {r:List GOcc} (hh:bf.f k p0 p1 p2=some r):ah P 261 [iA p0,tA (qGOcc p1),.agg [iA p2.From,iA p2.To,tA (qInt p2.Ids)]] [hA,hA,hA] (oA 3 (qGOcc r)):=by
 obtain⟨p2a,p2b,p2c⟩:=p2
 unfold bf.f at hh
 refine gp [(6,none)] [.own] [.skip,.skip,.skip] Tryz.func261 ?_
 unhygienic intros
 cbv
 refine bcs (fun c=>?_) (fun c=>?_)
 replace hh:=ifT hh c
 try rw[c]
 cbv
 exact Eb
 replace hh:=ifF hh c
 try rw[c]
 cbv
 refine bcs (fun d=>?_) (fun d=>?_)
 replace hh:=ifT hh d
 try rw[d]
 cbv
 obtain⟨B,j,hq1⟩:=ag hh
 refine lg hC (U4 (bf.l0 k p1))
  (fun⟨s,t,u,v⟩=>⟨[(1,tA (qGOcc p1)),(7,rA (11,0) (len (qGOcc ([]:List GOcc)))),(8,mA (8,0)),(9,iA v)],[((8,0),.box 1 [iA s,iA t,tA (qInt u)]),((11,0),.arr 1 3 (qGOcc ([]:List GOcc)))]⟩)
  (fun⟨w,y,z⟩=>⟨[(7,rA (11,0) (len (qGOcc ([]:List GOcc)))),(8,mA (8,0))],[((8,0),.box 1 [iA w,iA y,tA (qInt z)]),((11,0),.arr 1 3 (qGOcc ([]:List GOcc)))]⟩) (fun x=>x) (.exit 0)
  (i0:=(_,_,_,_)) j (fun⟨t0,t1,t2,t3⟩ e=>kA) ?_ ?_
 rintro⟨w,y,z⟩ hx
 subst B
 have hh:=hq1
 cbv
 exact D
 rintro n ⟨s,t,u,v⟩ N O hh hN1 hD1 hQ1
 dsimp only[U4] at hh
 unfold bf.l0 at hh
 cbv
 refine bcs (fun b=>?_) (fun b=>?_)
 replace hh:=ifT hh b
 try rw[b]
 cbv
 obtain⟨K,hh⟩:=ae hh
 obtain⟨⟨C,F,G⟩,L,hh⟩:=ag hh
 try dsimp only at hh
 refine⟨[iA C,iA F,tA (qInt G)],Nb K,Gb L,?_⟩
 cbv
 obtain⟨⟨H,I,J⟩,M,hh⟩:=ag hh
 try dsimp only at hh
 have fc:=ah.frz (r':=.agg [iA H,iA I,tA (qInt J)]) (rK hQ M) (by cases hQ;simp)
 try dsimp only at fc
 refine ak hF fc ?_
 cbv
 exact hN1 (_,_,_,_) _ hh fun⟨t0,t1,t2,t3⟩ e=>kA
 replace hh:=ifF hh b
 try rw[b]
 cbv
 exact hD1 (_,_,_) _ hh fun⟨t0,t1,t2⟩ e=>kA
 replace hh:=ifF hh d
 try rw[d]
 cbv
 obtain⟨B,j,hq1⟩:=ag hh
 refine lg hC (U2 (bf.l1 k p1 (⟨p2a,p2b,p2c⟩:GOcc)))
  (fun⟨o,A⟩=>⟨[(1,tA (qGOcc p1)),(5,mA (5,0)),(7,rA (11,0) (len (qGOcc o))),(10,iA A)],[((5,0),.box 1 [iA p2a,iA p2b,tA (qInt p2c)]),((11,0),.arr 1 3 (qGOcc o))]⟩)
  (fun(p:List GOcc)=>⟨[(7,rA (11,0) (len (qGOcc p)))],[((11,0),.arr 1 3 (qGOcc p))]⟩) (fun x=>x) (.exit 2)
  (i0:=(_,_)) j (fun⟨t0,t1⟩ e=>kA) ?_ ?_
 rintro p hx
 subst B
 have hh:=hq1
 cbv
 exact Eb
 rintro n ⟨o,A⟩ N O hh hN1 hD1 hQ1
 dsimp only[U2] at hh
 unfold bf.l1 at hh
 cbv
 have c1:=@rK
 have c2:=@lI
 exact D

theorem sZ {k:Nat} {p0:Int} {p1:List GOcc} {p2:List GOcc} {p3:GOcc} {r:(List GOcc)×(List GOcc)×(List GOcc)} (hh:gT.f k p0 p1 p2 p3=some r):ah P 258 [iA p0,oA 3 (qGOcc p1),oA 3 (qGOcc p2),.agg [iA p3.From,iA p3.To,tA (qInt p3.Ids)]] [hA,hA,hA,hA] (.tup [oA 3 (qGOcc r.1),oA 3 (qGOcc r.2.1),oA 3 (qGOcc r.2.2)]):=by
 obtain⟨p3a,p3b,p3c⟩:=p3
 unfold gT.f at hh
 refine gp [(8,none),(9,none),(10,none)] [.own,.own,.own] [.skip,.skip,.skip,.skip] Tryz.func258 ?_
 unhygienic intros
 cbv
 have c1:=@tv
 have c2:=@nv
 have c3:=@kX
 have c4:=@lI
 exact D

theorem AG {k:Nat} {p0:Int} {p1:GPair} {p2:List GOcc} {p3:List GOcc} {r:GPair×(List GOcc)} (hh:cm.f k p0 p1 p2 p3=some r):ah P 243 [iA p0,.agg [oA 3 (qGOcc p1.Left),oA 3 (qGOcc p1.Right)],tA (qGOcc p2),tA (qGOcc p3)] [hA,hA,hA,hA] (.tup [.agg [oA 3 (qGOcc r.1.Left),oA 3 (qGOcc r.1.Right)],oA 3 (qGOcc r.2)]):=by
 obtain⟨p1a,p1b⟩:=p1
 unfold cm.f at hh
 refine gp [(8,some 171),(9,none)] [.own,.own] [.skip,.skip,.skip,.skip] Tryz.func243 ?_
 unhygienic intros
 cbv
 obtain⟨C,b,hq1⟩:=ag hh
 refine lg hC (U4 (cm.l0 k p0 p2))
  (fun⟨c,d,j,A⟩=>⟨[(0,iA p0),(2,tA (qGOcc p2)),(3,tA (qGOcc p3)),(5,mA (5,0)),(8,mA (8,0)),(10,rA (19,0) (len (qGOcc j))),(11,iA A),(1000001,.agg [hA,hA])],[((1,0),.arr 1 3 (qGOcc c)),((1,1),.arr 1 3 (qGOcc d)),((5,0),.box 1 [rA (1,0) (len (qGOcc c)),rA (1,1) (len (qGOcc d))]),((8,0),.box 1 [zA,zA]),((19,0),.arr 1 3 (qGOcc j))]⟩)
  (fun⟨o,p,s⟩=>⟨[(0,iA p0),(3,tA (qGOcc p3)),(5,mA (5,0)),(8,mA (8,0)),(10,rA (19,0) (len (qGOcc s))),(1000001,.agg [hA,hA])],[((1,0),.arr 1 3 (qGOcc o)),((1,1),.arr 1 3 (qGOcc p)),((5,0),.box 1 [rA (1,0) (len (qGOcc o)),rA (1,1) (len (qGOcc p))]),((8,0),.box 1 [zA,zA]),((19,0),.arr 1 3 (qGOcc s))]⟩) (fun x=>x) (.exit 0)
  (i0:=(_,_,_,_)) b (fun⟨t0,t1,t2,t3⟩ e=>kA) ?_ ?_
 rintro⟨o,p,s⟩ hx
 subst C
 have hh:=hq1
 cbv
 obtain⟨C,b,hq1⟩:=ag hh
 refine lg hC (U4 (cm.l1 k p0 p3))
  (fun⟨t,u,v,B⟩=>⟨[(0,iA p0),(3,tA (qGOcc p3)),(5,mA (5,0)),(8,mA (8,0)),(10,rA (19,0) (len (qGOcc v))),(15,iA B),(1000001,.agg [hA,hA])],[((1,0),.arr 1 3 (qGOcc t)),((1,1),.arr 1 3 (qGOcc u)),((5,0),.box 1 [rA (1,0) (len (qGOcc t)),rA (1,1) (len (qGOcc u))]),((8,0),.box 1 [zA,zA]),((19,0),.arr 1 3 (qGOcc v))]⟩)
  (fun⟨w,y,z⟩=>⟨[(5,mA (5,0)),(8,mA (8,0)),(10,rA (19,0) (len (qGOcc z))),(1000001,.agg [hA,hA])],[((1,0),.arr 1 3 (qGOcc w)),((1,1),.arr 1 3 (qGOcc y)),((5,0),.box 1 [rA (1,0) (len (qGOcc w)),rA (1,1) (len (qGOcc y))]),((8,0),.box 1 [zA,zA]),((19,0),.arr 1 3 (qGOcc z))]⟩) (fun x=>x) (.exit 2)
  (i0:=(_,_,_,_)) b (fun⟨t0,t1,t2,t3⟩ e=>kA) ?_ ?_
 rintro⟨w,y,z⟩ hx
 subst C
 have hh:=hq1
 cbv
 exact Eb
 rintro n ⟨t,u,v,B⟩ F G hh hN1 hD1 hQ1
 dsimp only[U4] at hh
 unfold cm.l1 at hh
 cbv
 have c1:=@sZ
 have c2:=@eu
 exact D
 rintro n ⟨c,d,j,A⟩ F G hh hN1 hD1 hQ1
 dsimp only[U4] at hh
 unfold cm.l0 at hh
 cbv
 have c1:=@sZ
 have c2:=@eu
 exact D

theorem wm {k:Nat} {p0:List GOcc} {p1:GOcc} {r:List Bool} (hh:cA.f k p0 p1=some r):ah P 260 [tA (qGOcc p0),.agg [iA p1.From,iA p1.To,tA (qInt p1.Ids)]] [hA,hA] (oA 1 (qBool r)):=by
 obtain⟨p1a,p1b,p1c⟩:=p1
 unfold cA.f at hh
 refine gp [(4,none)] [.own] [.skip,.skip] Tryz.func260 ?_
 unhygienic intros
 cbv
 obtain⟨o,hh⟩:=ae hh
 obtain⟨p,hh⟩:=ae hh
 obtain⟨s,hh⟩:=ae hh
 refine⟨⟨Nb o,Nb p,Wb s⟩,?_⟩
 obtain⟨t,j,hq1⟩:=ag hh
 refine lg hC (U2 (cA.l0 k p0 (⟨p1a,p1b,p1c⟩:GOcc)))
  (fun⟨b,d⟩=>⟨[(0,tA (qGOcc p0)),(3,mA (3,0)),(5,rA (9,0) (len (qBool b))),(6,iA d)],[((3,0),.box 1 [iA p1a,iA p1b,tA (qInt p1c)]),((9,0),.arr 1 1 (qBool b))]⟩)
  (fun(c:List Bool)=>⟨[(5,rA (9,0) (len (qBool c)))],[((9,0),.arr 1 1 (qBool c))]⟩) (fun x=>x) (.exit 0)
  (i0:=(_,_)) j (fun⟨t0,t1⟩ e=>kA) ?_ ?_
 rintro c hx
 subst t
 have hh:=hq1
 cbv
 exact Eb
 rintro n ⟨b,d⟩ u v hh hN1 hD1 hQ1
 dsimp only[U2] at hh
 unfold cA.l0 at hh
 cbv
 exact D
theorem rO {k:Nat} {p0:List GOcc} {p1:GOcc} {r:List Bool} (hh:cA.f k p0 p1=some r):ah P 260 [oA 3 (qGOcc p0),.agg [iA p1.From,iA p1.To,tA (qInt p1.Ids)]] [oA 3 (qGOcc p0),hA] (oA 1 (qBool r)):=by
  cases hQ;exact(wm .mk hh).lend (pR _) (.lend (congrArg A.tree (lC _).symm) (.same rfl .nil))
theorem Ce {k:Nat} {p0:Int} {p1:GPair} {p2:List GOcc} {p3:List GOcc} {r:GPair×(List GOcc)} (hh:dY.f k p0 p1 p2 p3=some r):ah P 244 [iA p0,.agg [oA 3 (qGOcc p1.Left),oA 3 (qGOcc p1.Right)],tA (qGOcc p2),tA (qGOcc p3)] [hA,hA,hA,hA] (.tup [.agg [oA 3 (qGOcc r.1.Left),oA 3 (qGOcc r.1.Right)],oA 3 (qGOcc r.2)]):=by
 obtain⟨p1a,p1b⟩:=p1
 unfold dY.f at hh
 refine gp [(8,some 171),(9,none)] [.own,.own] [.skip,.skip,.skip,.skip] Tryz.func244 ?_
 unhygienic intros
 cbv
 obtain⟨s,p,hq1⟩:=ag hh
 refine lg hC (U3 (dY.l0 k p0 p3))
  (fun⟨b,c,o⟩=>⟨[(0,iA p0),(2,tA (qGOcc p2)),(3,tA (qGOcc p3)),(5,mA (5,0)),(8,mA (8,0)),(10,rA (14,0) (len (qGOcc c))),(11,iA o),(1000001,.agg [hA,rA (1,1) (len (qGOcc p1b))])],[((1,0),.arr 1 3 (qGOcc b)),((1,1),.arr 1 3 (qGOcc p1b)),((5,0),.box 1 [rA (1,0) (len (qGOcc b)),rA (1,1) (len (qGOcc p1b))]),((8,0),.box 1 [zA,zA]),((14,0),.arr 1 3 (qGOcc c))]⟩)
  (fun⟨d,j⟩=>⟨[(2,tA (qGOcc p2)),(5,mA (5,0)),(8,mA (8,0)),(10,rA (14,0) (len (qGOcc j))),(1000001,.agg [hA,rA (1,1) (len (qGOcc p1b))])],[((1,0),.arr 1 3 (qGOcc d)),((1,1),.arr 1 3 (qGOcc p1b)),((5,0),.box 1 [rA (1,0) (len (qGOcc d)),rA (1,1) (len (qGOcc p1b))]),((8,0),.box 1 [zA,zA]),((14,0),.arr 1 3 (qGOcc j))]⟩) (fun x=>x) (.exit 0)
  (i0:=(_,_,_)) p (fun⟨t0,t1,t2⟩ e=>kA) ?_ ?_
 rintro⟨d,j⟩ hx
 subst s
 have hh:=hq1
 cbv
 have c1:=@eu
 exact D
 rintro n ⟨b,c,o⟩ t u hh hN1 hD1 hQ1
 dsimp only[U3] at hh
 unfold dY.l0 at hh
 cbv
 have c1:=@rO
 have c2:=@nv
 have c3:=@kX
 have c4:=@eu
 exact D

theorem vC {k:Nat} {p0:List GOcc} {p1:Int} {p2:Int} {r:Bool} (hh:cu.f k p0 p1 p2=some r):ah P 275 [tA (qGOcc p0),iA p1,iA p2] [hA,hA,hA] (bA r):=by
 unfold cu.f at hh
 refine gp [(6,none)] [.own] [.skip,.skip,.skip] Tryz.func275 ?_
 unhygienic intros
 cbv
 obtain⟨d,c,hq1⟩:=ag hh
 refine lg hC (cu.l0 k p0 p1 p2)
  (fun b=>⟨[(0,tA (qGOcc p0)),(1,iA p1),(2,iA p2),(7,iA b)],[]⟩)
  (fun(_:Unit)=>⟨[],[]⟩) .ok (.exit 0)
  (i0:=_) c (fun t0 e=>kA) ?_ ?_
 rintro _ hx
 subst d
 have hh:=hq1
 cbv
 exact Eb
 rintro n b j o hh hN1 hD1 hQ1
 unfold cu.l0 at hh
 cbv
 exact D

end Go.Proofs.YtlbnmldopjadoaaGreat
