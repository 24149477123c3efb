/- The functions of this program do what the plain ones do. -/
import Derived.Test.YtlbnmldopjadoaaGreatC1
namespace Go.Proofs.YtlbnmldopjadoaaGreat
open Go Go.Vm
set_option linter.unusedVariables false
set_option maxHeartbeats 4000000
set_option maxRecDepth 4000
variable {qIu8:List Int→Vm.Rows} {qInt:List Int→Vm.Rows} {qGExO:List GEx→Vm.Rows} {qGEx:List GEx→Vm.Rows} {qGEv:List GEv→Vm.Rows} {qGOcc:List GOcc→Vm.Rows} {qGNode:List GNode→Vm.Rows} {qLGOcc:List (List GOcc)→Vm.Rows} {qLInt:List (List Int)→Vm.Rows} {qGOccO:List GOcc→Vm.Rows} {qStr:List ByteArray→Vm.Rows} {qGNodeS:List GNode→Vm.Rows} {qBool:List Bool→Vm.Rows} (hQ:EQ qIu8 qInt qGExO qGEx qGEv qGOcc qGNode qLGOcc qLInt qGOccO qStr qGNodeS qBool)
include hQ
theorem jv {k:Nat} {p0:List GOcc} {p1:List GOcc} {r:List GOcc} (hh:bj.f k p0 p1=some r):ak P 234 [tA (qGOcc p0),tA (qGOcc p1)] [hA,hA] (oA 3 (qGOcc r)):=by
 unfold bj.f at hh
 refine go (ts:=[(4,none)]) (rm:=[.own]) (pm:=[.skip,.skip]) Tryz.func234 ?_
 unhygienic intros
 cbv
 obtain⟨J,z,A⟩:=af hh
 refine ay hC eok mixed (fun n (i:(List GOcc)×Int)=>bj.l0 k p0 p1 n i.1 i.2)
  (fun⟨j,s⟩=>(⟨[(1,tA (qGOcc p1)),(5,.ref (5,50) 1 0 (len (qGOcc j))),(10,tA (qGOcc p0)),(11,iA (cast (len (qGOcc p0)))),(12,iA s)],[((5,50),.arr 1 3 (qGOcc j))]⟩:St))
  (fun(o:List GOcc)=>(⟨[(5,.ref (5,50) 1 0 (len (qGOcc o)))],[((5,50),.arr 1 3 (qGOcc o))]⟩:St)) (fun x=>x) (.exit 0)
  (i0:=(_,_)) z (fun _=>rfl) ?_ ?_ ?_
 ·rintro⟨u,B⟩ e
  refine aq [] ?_
  cbv
  all_goals exact J2
 rintro o hx
 subst J
 have hh:=A
 cbv
 exact Eb
 rintro n ⟨j,s⟩ L M hh t C K
 try dsimp only at hh
 unfold bj.l0 at hh
 cbv
 refine bcs (fun b=>?_) (fun b=>?_)
 replace hh:=ifT hh b
 try rw[b]
 cbv
 obtain⟨D,hh⟩:=ac hh
 obtain⟨⟨v,w,y⟩,F,hh⟩:=af hh
 try dsimp only at hh
 refine⟨[iA v,iA w,tA (qInt y)],Nb D,Gb F,?_⟩
 cbv
 obtain⟨⟨I,d⟩,G,hh⟩:=af hh
 try dsimp only at hh
 refine ag hF (eQ hQ (g2:=fun y0 y1=>cU.f k y0 y1) (fun h=>ju hQ h) G) ?_
 cbv
 replace hh:=aG hh
 rcases hh with⟨p,hh⟩|⟨p,hh⟩
 have c:d=true:=Tb p
 have g:=c;cbv at g;try rw[c]
 try rw[g]
 cbv
 ·refine t (_,_) _ hh fun⟨u,B⟩ e=>?_
  refine ai ?_
  cbv
  all_goals exact J2
 have c:d=false:=Fb p
 have g:=c;cbv at g;try rw[c]
 try rw[g]
 cbv
 obtain⟨H,hh⟩:=ac hh
 refine⟨⟨Ob,Ab⟩,?_⟩
 refine⟨⟨Ob,Wb H⟩,?_⟩
 ·refine t (_,_) _ hh fun⟨u,B⟩ e=>?_
  refine aq [((5,50),(27,0))] ?_
  cbv
  all_goals exact J2
 replace hh:=ifF hh b
 try rw[b]
 cbv
 ·refine C _ _ hh fun u e=>?_
  refine ai ?_
  cbv
  all_goals exact J1

theorem qq {k:Nat} {p0:Int} {p1:List GOcc} {p2:GOcc} {p3:Bool} {r:List GOcc} (hh:eE.f k p0 p1 p2 p3=some r):ak P 235 [iA p0,tA (qGOcc p1),.agg [iA p2.From,iA p2.To,tA (qInt p2.Ids)],bA p3] [hA,hA,hA,hA] (tA (qGOcc r)):=by
 obtain⟨p2a,p2b,p2c⟩:=p2
 unfold eE.f at hh
 refine go (ts:=[(8,none)]) (rm:=[.val]) (pm:=[.skip,.skip,.skip,.skip]) Tryz.func235 ?_
 unhygienic intros
 cbv
 refine bcs (fun b=>?_) (fun b=>?_)
 replace hh:=ifT hh b
 try rw[b]
 cbv
 exact Eb
 replace hh:=ifF hh b
 try rw[b]
 cbv
 refine bcs (fun c=>?_) (fun c=>?_)
 replace hh:=ifT hh c
 try rw[c]
 cbv
 obtain⟨s,o,hh⟩:=af hh
 refine ag hF (jA hQ o) ?_
 cbv
 exact Eb
 replace hh:=ifF hh c
 try rw[c]
 cbv
 refine bcs (fun d=>?_) (fun d=>?_)
 replace hh:=ifT hh d
 try rw[d]
 cbv
 obtain⟨p,j,hh⟩:=af hh
 refine ag hF (jA hQ j) ?_
 cbv
 exact Eb
 replace hh:=ifF hh d
 try rw[d]
 cbv
 exact Eb

theorem kF {k:Nat} {p0:aB} {p1:Int} {p2:List GOcc} {p3:List GOcc} {r:aB×(List GOcc)} (hh:aL.f k p0 p1 p2 p3=some r):ak P 197 [.agg [tA (qGOcc p0.Left),tA (qGOcc p0.Right)],iA p1,tA (qGOcc p2),tA (qGOcc p3)] [hA,hA,hA,hA] (.tup [.agg [tA (qGOcc r.1.Left),tA (qGOcc r.1.Right)],tA (qGOcc r.2)]):=by
 obtain⟨p0a,p0b⟩:=p0
 unfold aL.f at hh
 refine go (ts:=[(8,some 171),(9,none)]) (rm:=[.val,.val]) (pm:=[.skip,.skip,.skip,.skip]) Tryz.func197 ?_
 unhygienic intros
 cbv
 obtain⟨O,d,j⟩:=af hh
 refine ay hC eok mixed (fun n (i:(List GOcc)×(List GOcc)×(List GOcc)×Int)=>aL.l0 k p1 p2 n i.1 i.2.1 i.2.2.1 i.2.2.2)
  (fun⟨z,A,B,C⟩=>(⟨[(1,iA p1),(3,tA (qGOcc p3)),(4,.mptr (4,0) 1 0 0),(8,.mptr (8,0) 1 0 0),(10,tA (qGOcc B)),(19,tA (qGOcc p2)),(20,iA (cast (len (qGOcc p2)))),(21,iA C)],[((4,0),.box 1 [tA (qGOcc z),tA (qGOcc A)]),((8,0),.box 1 [.lit (.slice none 0 0),.lit (.slice none 0 0)])]⟩:St))
  (fun(⟨D,F,G⟩:(List GOcc)×(List GOcc)×(List GOcc))=>(⟨[(1,iA p1),(3,tA (qGOcc p3)),(4,.mptr (4,0) 1 0 0),(8,.mptr (8,0) 1 0 0),(10,tA (qGOcc G))],[((4,0),.box 1 [tA (qGOcc D),tA (qGOcc F)]),((8,0),.box 1 [.lit (.slice none 0 0),.lit (.slice none 0 0)])]⟩:St)) (fun x=>x) (.exit 0)
  (i0:=(_,_,_,_)) d (fun _=>rfl) ?_ ?_ ?_
 ·rintro⟨o,p,s,Q⟩ e
  refine ai ?_
  cbv
  all_goals exact J4
 rintro⟨D,F,G⟩ hx
 subst O
 have hh:=j
 cbv
 obtain⟨O,d,j⟩:=af hh
 refine ay hC eok mixed (fun n (i:(List GOcc)×(List GOcc)×(List GOcc)×Int)=>aL.l1 k p1 p3 n i.1 i.2.1 i.2.2.1 i.2.2.2)
  (fun⟨H,I,J,K⟩=>(⟨[(1,iA p1),(4,.mptr (4,0) 1 0 0),(8,.mptr (8,0) 1 0 0),(10,tA (qGOcc J)),(51,tA (qGOcc p3)),(52,iA (cast (len (qGOcc p3)))),(53,iA K)],[((4,0),.box 1 [tA (qGOcc H),tA (qGOcc I)]),((8,0),.box 1 [.lit (.slice none 0 0),.lit (.slice none 0 0)])]⟩:St))
  (fun(⟨L,M,N⟩:(List GOcc)×(List GOcc)×(List GOcc))=>(⟨[(4,.mptr (4,0) 1 0 0),(8,.mptr (8,0) 1 0 0),(10,tA (qGOcc N))],[((4,0),.box 1 [tA (qGOcc L),tA (qGOcc M)]),((8,0),.box 1 [.lit (.slice none 0 0),.lit (.slice none 0 0)])]⟩:St)) (fun x=>x) (.exit 2)
  (i0:=(_,_,_,_)) d (fun _=>rfl) ?_ ?_ ?_
 ·rintro⟨o,p,s,Q⟩ e
  refine ai ?_
  cbv
  all_goals exact J4
 rintro⟨L,M,N⟩ hx
 subst O
 have hh:=j
 cbv
 exact Eb
 rintro n ⟨H,I,J,K⟩ N1 D1 hh t u EJ
 try dsimp only at hh
 unfold aL.l1 at hh
 cbv
 refine bcs (fun b=>?_) (fun b=>?_)
 replace hh:=ifT hh b
 try rw[b]
 cbv
 obtain⟨R,hh⟩:=ac hh
 obtain⟨⟨v,w,y⟩,S,hh⟩:=af hh
 try dsimp only at hh
 refine⟨[iA v,iA w,tA (qInt y)],Nb R,Gb S,?_⟩
 cbv
 obtain⟨⟨E2,E3⟩,T,hh⟩:=af hh
 try dsimp only at hh
 have fc:=gR hQ T
 try dsimp only at fc
 refine ag hF fc ?_
 cbv
 obtain⟨FA,U,hh⟩:=af hh
 refine ag hF (bL hQ U) ?_
 cbv
 obtain⟨V,W,hh⟩:=af hh
 refine ag hF (ak.frz (r':=tA (qGOcc V)) (jv hQ W) (by cases hQ;simp)) ?_
 cbv
 obtain⟨FB,X,hh⟩:=af hh
 refine ag hF (qq hQ X) ?_
 cbv
 ·refine t (_,_,_,_) _ hh fun⟨o,p,s,Q⟩ e=>?_
  refine ai ?_
  cbv
  all_goals exact J4
 replace hh:=ifF hh b
 try rw[b]
 cbv
 ·refine u (_,_,_) _ hh fun⟨o,p,s⟩ e=>?_
  refine ai ?_
  cbv
  all_goals exact J3
 rintro n ⟨z,A,B,C⟩ N1 D1 hh t u EJ
 try dsimp only at hh
 unfold aL.l0 at hh
 cbv
 refine bcs (fun c=>?_) (fun c=>?_)
 replace hh:=ifT hh c
 try rw[c]
 cbv
 obtain⟨Ff,hh⟩:=ac hh
 obtain⟨⟨Y,Z,ek⟩,Fj,hh⟩:=af hh
 try dsimp only at hh
 refine⟨[iA Y,iA Z,tA (qInt ek)],Nb Ff,Gb Fj,?_⟩
 cbv
 obtain⟨⟨Fr,Fu⟩,Fk,hh⟩:=af hh
 try dsimp only at hh
 have fc:=gR hQ Fk
 try dsimp only at fc
 refine ag hF fc ?_
 cbv
 obtain⟨FE,Fm,hh⟩:=af hh
 refine ag hF (bL hQ Fm) ?_
 cbv
 obtain⟨Fo,Fp,hh⟩:=af hh
 refine ag hF (ak.frz (r':=tA (qGOcc Fo)) (jv hQ Fp) (by cases hQ;simp)) ?_
 cbv
 obtain⟨FH,Fq,hh⟩:=af hh
 refine ag hF (qq hQ Fq) ?_
 cbv
 ·refine t (_,_,_,_) _ hh fun⟨o,p,s,Q⟩ e=>?_
  refine ai ?_
  cbv
  all_goals exact J4
 replace hh:=ifF hh c
 try rw[c]
 cbv
 ·refine u (_,_,_) _ hh fun⟨o,p,s⟩ e=>?_
  refine ai ?_
  cbv
  all_goals exact J3

theorem sf {p0:GOcc} {c0:GOcc} {r:Bool} (hh:fp.f p0 c0=some r):ak P 236 [.agg [iA p0.From,iA p0.To,tA (qInt p0.Ids)],.iptr [iA c0.From,iA c0.To,tA (qInt c0.Ids)] 0] [hA,hA] (bA r):=by
 obtain⟨p0a,p0b,p0c⟩:=p0
 obtain⟨c0a,c0b,c0c⟩:=c0
 unfold fp.f at hh
 refine go (ts:=[(3,none)]) (rm:=[.own]) (pm:=[.skip,.skip]) Tryz.func236 ?_
 unhygienic intros
 cbv
 exact Eb

theorem lq {k:Nat} {g1:GOcc→Option Bool} {cp1_0:GOcc} (hg1:∀{y0:GOcc} {r:Bool},g1 y0=some r→ak P 236 [.agg [iA y0.From,iA y0.To,tA (qInt y0.Ids)],.iptr [iA cp1_0.From,iA cp1_0.To,tA (qInt cp1_0.Ids)] 0] [hA,hA] (bA r)) {p0:List GOcc} {r:List GOcc} (hh:aW.f g1 k p0=some r):ak P 218 [tA (qGOcc p0),.clo 236 [.iptr [iA cp1_0.From,iA cp1_0.To,tA (qInt cp1_0.Ids)] 0]] [hA,hA] (oA 3 (qGOcc r)):=by
 obtain⟨cp1_0a,cp1_0b,cp1_0c⟩:=cp1_0
 unfold aW.f at hh
 refine go (ts:=[(4,none)]) (rm:=[.own]) (pm:=[.skip,.skip]) Tryz.func218 ?_
 unhygienic intros
 cbv
 obtain⟨G,w,y⟩:=af hh
 refine ay hC eok mixed (fun n (i:(List GOcc)×Int)=>aW.l0 k g1 p0 n i.1 i.2)
  (fun⟨d,o⟩=>(⟨[(1,.clo 236 [.iptr [iA cp1_0a,iA cp1_0b,tA (qInt cp1_0c)] 0]),(5,.ref (5,50) 1 0 (len (qGOcc d))),(8,tA (qGOcc p0)),(9,iA (cast (len (qGOcc p0)))),(10,iA o)],[((5,50),.arr 1 3 (qGOcc d))]⟩:St))
  (fun(j:List GOcc)=>(⟨[(5,.ref (5,50) 1 0 (len (qGOcc j)))],[((5,50),.arr 1 3 (qGOcc j))]⟩:St)) (fun x=>x) (.exit 0)
  (i0:=(_,_)) w (fun _=>rfl) ?_ ?_ ?_
 ·rintro⟨s,z⟩ e
  refine aq [] ?_
  cbv
  all_goals exact J2
 rintro j hx
 subst G
 have hh:=y
 cbv
 exact Eb
 rintro n ⟨d,o⟩ J K hh p A H
 try dsimp only at hh
 unfold aW.l0 at hh
 cbv
 refine bcs (fun b=>?_) (fun b=>?_)
 replace hh:=ifT hh b
 try rw[b]
 cbv
 obtain⟨B,hh⟩:=ac hh
 obtain⟨⟨t,u,v⟩,C,hh⟩:=af hh
 try dsimp only at hh
 refine⟨[iA t,iA u,tA (qInt v)],Nb B,Gb C,?_⟩
 cbv
 obtain⟨I,D,hh⟩:=af hh
 refine ag hF (hg1 D) ?_
 cbv
 refine bcs (fun c=>?_) (fun c=>?_)
 replace hh:=ifT hh c
 try rw[c]
 cbv
 obtain⟨F,hh⟩:=ac hh
 refine⟨⟨Ob,Ab⟩,?_⟩
 refine⟨⟨Ob,Wb F⟩,?_⟩
 ·refine p (_,_) _ hh fun⟨s,z⟩ e=>?_
  refine aq [((5,50),(20,0))] ?_
  cbv
  all_goals exact J2
 replace hh:=ifF hh c
 try rw[c]
 cbv
 ·refine p (_,_) _ hh fun⟨s,z⟩ e=>?_
  refine ai ?_
  cbv
  all_goals exact J2
 replace hh:=ifF hh b
 try rw[b]
 cbv
 ·refine A _ _ hh fun s e=>?_
  refine ai ?_
  cbv
  all_goals exact J1

theorem kV {k:Nat} {p0:aB} {p1:Int} {p2:List GOcc} {p3:List GOcc} {r:aB×(List GOcc)} (hh:bM.f k p0 p1 p2 p3=some r):ak P 198 [.agg [tA (qGOcc p0.Left),tA (qGOcc p0.Right)],iA p1,tA (qGOcc p2),tA (qGOcc p3)] [hA,hA,hA,hA] (.tup [.agg [tA (qGOcc r.1.Left),tA (qGOcc r.1.Right)],tA (qGOcc r.2)]):=by
 obtain⟨p0a,p0b⟩:=p0
 unfold bM.f at hh
 refine goG (g:=[5]) (i:=[]) (o:=[]) (sh:=[]) (ts:=[(8,some 171),(9,none)]) (rm:=[.val,.val]) (pm:=[.skip,.skip,.skip,.skip]) Tryz.func198 ?_
 unhygienic intros
 cbv
 obtain⟨O,w,y⟩:=af hh
 refine ay hC (bU [5] [] []) mixed (fun n (i:(List GOcc)×(List GOcc)×Int)=>bM.l0 k p1 p3 n i.1 i.2.1 i.2.2)
  (fun⟨p,s,t⟩=>(⟨[(1,iA p1),(2,tA (qGOcc p2)),(4,.mptr (4,0) 1 0 0),(8,.mptr (8,0) 1 0 0),(10,tA (qGOcc s)),(15,tA (qGOcc p3)),(16,iA (cast (len (qGOcc p3)))),(17,iA t)],[((4,0),.box 1 [tA (qGOcc p),tA (qGOcc p0b)]),((8,0),.box 1 [.lit (.slice none 0 0),.lit (.slice none 0 0)])]⟩:St))
  (fun(⟨u,v⟩:(List GOcc)×(List GOcc))=>(⟨[(2,tA (qGOcc p2)),(4,.mptr (4,0) 1 0 0),(8,.mptr (8,0) 1 0 0),(10,tA (qGOcc v))],[((4,0),.box 1 [tA (qGOcc u),tA (qGOcc p0b)]),((8,0),.box 1 [.lit (.slice none 0 0),.lit (.slice none 0 0)])]⟩:St)) (fun x=>x) (.exit 0)
  (i0:=(_,_,_)) w (fun _=>rfl) ?_ ?_ ?_
 ·rintro⟨z,A,Q⟩ e
  refine ai ?_
  cbv
  all_goals exact J3
 rintro⟨u,v⟩ hx
 subst O
 have hh:=y
 cbv
 obtain⟨R,B,hh⟩:=af hh
 refine ag hF (bL hQ B) ?_
 cbv
 exact Eb
 rintro n ⟨p,s,t⟩ V W hh C D S
 try dsimp only at hh
 unfold bM.l0 at hh
 cbv
 refine bcs (fun b=>?_) (fun b=>?_)
 replace hh:=ifT hh b
 try rw[b]
 cbv
 obtain⟨F,hh⟩:=ac hh
 obtain⟨⟨c,d,j⟩,G,hh⟩:=af hh
 try dsimp only at hh
 refine⟨[iA c,iA d,tA (qInt j)],Nb F,Gb G,?_⟩
 cbv
 refine FY hC (bU [5] [] []) mixed (⟨[(1,iA p1),(2,tA (qGOcc p2)),(4,.mptr (4,0) 1 0 0),(8,.mptr (8,0) 1 0 0),(10,tA (qGOcc s)),(12,.mptr (12,0) 1 0 0),(15,tA (qGOcc p3)),(16,iA (cast (len (qGOcc p3)))),(17,iA t)],[((4,0),.box 1 [tA (qGOcc p),tA (qGOcc p0b)]),((8,0),.box 1 [.lit (.slice none 0 0),.lit (.slice none 0 0)]),((12,0),.fbox 1 [iA c,iA d,tA (qInt j)])]⟩:St) (aq [((4,0),(4,0)),((8,0),(8,0)),((12,0),(12,0))] ?_) ?_
 ·cbv
  all_goals exact Zb
 cbv
 obtain⟨T,H,hh⟩:=af hh
 refine ag hF (lq hQ (g1:=fun y0=>fp.f y0 ((⟨c,d,j⟩:GOcc))) (fun h=>sf hQ h) H) ?_
 cbv
 obtain⟨⟨M,N⟩,I,hh⟩:=af hh
 try dsimp only at hh
 refine⟨Ob,?_⟩
 have fc:=gR hQ I
 try dsimp only at fc
 refine ag hF fc ?_
 cbv
 obtain⟨U,J,hh⟩:=af hh
 refine ag hF (bL hQ J) ?_
 cbv
 obtain⟨K,L,hh⟩:=af hh
 refine ag hF (ak.frz (r':=tA (qGOcc K)) (jv hQ L) (by cases hQ;simp)) ?_
 cbv
 ·refine C (_,_,_) _ hh fun⟨z,A,Q⟩ e=>?_
  refine ai ?_
  cbv
  all_goals exact J3
 replace hh:=ifF hh b
 try rw[b]
 cbv
 ·refine D (_,_) _ hh fun⟨z,A⟩ e=>?_
  refine ai ?_
  cbv
  all_goals exact J2

theorem pT {p0:GOcc} {c0:GOcc} {c1:GOcc} {r:Bool} (hh:fh.f p0 c0 c1=some r):ak P 256 [.agg [iA p0.From,iA p0.To,tA (qInt p0.Ids)],.iptr [iA c0.From,iA c0.To,tA (qInt c0.Ids)] 0,.iptr [iA c1.From,iA c1.To,tA (qInt c1.Ids)] 0] [hA,hA,hA] (bA r):=by
 obtain⟨p0a,p0b,p0c⟩:=p0
 obtain⟨c0a,c0b,c0c⟩:=c0
 obtain⟨c1a,c1b,c1c⟩:=c1
 unfold fh.f at hh
 refine go (ts:=[(4,none)]) (rm:=[.own]) (pm:=[.skip,.skip,.skip]) Tryz.func256 ?_
 unhygienic intros
 cbv
 refine bcs (fun b=>?_) (fun b=>?_)
 replace hh:=ifT hh b
 try rw[b]
 cbv
 exact Eb
 replace hh:=ifF hh b
 try rw[b]
 cbv
 exact Eb

theorem hJ {k:Nat} {g1:GOcc→Option Bool} {cp1_0:GOcc} {cp1_1:GOcc} (hg1:∀{y0:GOcc} {r:Bool},g1 y0=some r→ak P 256 [.agg [iA y0.From,iA y0.To,tA (qInt y0.Ids)],.iptr [iA cp1_0.From,iA cp1_0.To,tA (qInt cp1_0.Ids)] 0,.iptr [iA cp1_1.From,iA cp1_1.To,tA (qInt cp1_1.Ids)] 0] [hA,hA,hA] (bA r)) {p0:List GOcc} {r:Int} (hh:bD.f g1 k p0=some r):ak P 230 [tA (qGOcc p0),.clo 256 [.iptr [iA cp1_0.From,iA cp1_0.To,tA (qInt cp1_0.Ids)] 0,.iptr [iA cp1_1.From,iA cp1_1.To,tA (qInt cp1_1.Ids)] 0]] [hA,hA] (iA r):=by
 obtain⟨cp1_0a,cp1_0b,cp1_0c⟩:=cp1_0
 obtain⟨cp1_1a,cp1_1b,cp1_1c⟩:=cp1_1
 unfold bD.f at hh
 refine go (ts:=[(4,none)]) (rm:=[.own]) (pm:=[.skip,.skip]) Tryz.func230 ?_
 unhygienic intros
 cbv
 obtain⟨B,t,d⟩:=af hh
 refine ay hC eok mixed (bD.l0 k g1 p0)
  (fun j=>(⟨[(0,tA (qGOcc p0)),(1,.clo 256 [.iptr [iA cp1_0a,iA cp1_0b,tA (qInt cp1_0c)] 0,.iptr [iA cp1_1a,iA cp1_1b,tA (qInt cp1_1c)] 0]),(7,iA (cast (len (qGOcc p0)))),(8,iA j)],[]⟩:St))
  (fun(_:Unit)=>(⟨[],[]⟩:St)) .ok (.exit 0)
  (i0:=_) t (fun _=>rfl) ?_ ?_ ?_
 ·rintro C e
  refine ai ?_
  cbv
  all_goals exact J1
 rintro _ hx
 subst B
 have hh:=d
 cbv
 exact Eb
 rintro n j F G hh u v w
 unfold bD.l0 at hh
 cbv
 refine bcs (fun b=>?_) (fun b=>?_)
 replace hh:=ifT hh b
 try rw[b]
 cbv
 obtain⟨y,hh⟩:=ac hh
 obtain⟨⟨o,p,s⟩,z,hh⟩:=af hh
 try dsimp only at hh
 refine⟨[iA o,iA p,tA (qInt s)],Nb y,Gb z,?_⟩
 cbv
 obtain⟨D,A,hh⟩:=af hh
 refine ag hF (hg1 A) ?_
 cbv
 refine bcs (fun c=>?_) (fun c=>?_)
 replace hh:=ifT hh c
 try rw[c]
 cbv
 cases hh
 have hh:some _=some _:=d
 refine w _ _ ?_
 cbv
 exact Eb
 replace hh:=ifF hh c
 try rw[c]
 cbv
 ·refine u _ _ hh fun C e=>?_
  refine ai ?_
  cbv
  all_goals exact J1
 replace hh:=ifF hh b
 try rw[b]
 cbv
 ·refine v () _ hh fun _ e=>?_
  refine ai ?_
  cbv
  all_goals exact J0

theorem gF {k:Nat} {g1:GOcc→Option Bool} {cp1_0:GOcc} {cp1_1:GOcc} (hg1:∀{y0:GOcc} {r:Bool},g1 y0=some r→ak P 256 [.agg [iA y0.From,iA y0.To,tA (qInt y0.Ids)],.iptr [iA cp1_0.From,iA cp1_0.To,tA (qInt cp1_0.Ids)] 0,.iptr [iA cp1_1.From,iA cp1_1.To,tA (qInt cp1_1.Ids)] 0] [hA,hA,hA] (bA r)) {p0:List GOcc} {r:Bool} (hh:ea.f g1 k p0=some r):ak P 192 [tA (qGOcc p0),.clo 256 [.iptr [iA cp1_0.From,iA cp1_0.To,tA (qInt cp1_0.Ids)] 0,.iptr [iA cp1_1.From,iA cp1_1.To,tA (qInt cp1_1.Ids)] 0]] [hA,hA] (bA r):=by
 obtain⟨cp1_0a,cp1_0b,cp1_0c⟩:=cp1_0
 obtain⟨cp1_1a,cp1_1b,cp1_1c⟩:=cp1_1
 unfold ea.f at hh
 refine go (ts:=[(4,none)]) (rm:=[.own]) (pm:=[.skip,.skip]) Tryz.func192 ?_
 unhygienic intros
 cbv
 obtain⟨c,b,hh⟩:=af hh
 refine ag hF (hJ hQ (g1:=g1) hg1 b) ?_
 cbv
 exact Eb

theorem ry {k:Nat} {p0:GOcc} {c0:GOcc} {c1:ax} {r:Bool} (hh:fW.f k p0 c0 c1=some r):ak P 255 [.agg [iA p0.From,iA p0.To,tA (qInt p0.Ids)],.iptr [iA c0.From,iA c0.To,tA (qInt c0.Ids)] 0,.iptr [tA (qGOcc c1.Left),tA (qGOcc c1.Mid)] 0] [hA,hA,hA] (bA r):=by
 obtain⟨p0a,p0b,p0c⟩:=p0
 obtain⟨c0a,c0b,c0c⟩:=c0
 obtain⟨c1a,c1b⟩:=c1
 unfold fW.f at hh
 refine go (ts:=[(4,none)]) (rm:=[.own]) (pm:=[.skip,.skip,.skip]) Tryz.func255 ?_
 unhygienic intros
 cbv
 refine bcs (fun b=>?_) (fun b=>?_)
 replace hh:=ifT hh b
 try rw[b]
 cbv
 obtain⟨d,c,hh⟩:=af hh
 refine ag hF (gF hQ (g1:=fun y0=>fh.f y0 ((⟨p0a,p0b,p0c⟩:GOcc)) ((⟨c0a,c0b,c0c⟩:GOcc))) (fun h=>pT hQ h) c) ?_
 cbv
 exact Eb
 replace hh:=ifF hh b
 try rw[b]
 cbv
 exact Eb

theorem kZ {k:Nat} {g1:GOcc→Option Bool} {cp1_0:GOcc} {cp1_1:ax} (hg1:∀{y0:GOcc} {r:Bool},g1 y0=some r→ak P 255 [.agg [iA y0.From,iA y0.To,tA (qInt y0.Ids)],.iptr [iA cp1_0.From,iA cp1_0.To,tA (qInt cp1_0.Ids)] 0,.iptr [tA (qGOcc cp1_1.Left),tA (qGOcc cp1_1.Mid)] 0] [hA,hA,hA] (bA r)) {p0:List GOcc} {r:List GOcc} (hh:aW.f g1 k p0=some r):ak P 218 [tA (qGOcc p0),.clo 255 [.iptr [iA cp1_0.From,iA cp1_0.To,tA (qInt cp1_0.Ids)] 0,.iptr [tA (qGOcc cp1_1.Left),tA (qGOcc cp1_1.Mid)] 0]] [hA,hA] (oA 3 (qGOcc r)):=by
 obtain⟨cp1_0a,cp1_0b,cp1_0c⟩:=cp1_0
 obtain⟨cp1_1a,cp1_1b⟩:=cp1_1
 unfold aW.f at hh
 refine go (ts:=[(4,none)]) (rm:=[.own]) (pm:=[.skip,.skip]) Tryz.func218 ?_
 unhygienic intros
 cbv
 obtain⟨G,w,y⟩:=af hh
 refine ay hC eok mixed (fun n (i:(List GOcc)×Int)=>aW.l0 k g1 p0 n i.1 i.2)
  (fun⟨d,o⟩=>(⟨[(1,.clo 255 [.iptr [iA cp1_0a,iA cp1_0b,tA (qInt cp1_0c)] 0,.iptr [tA (qGOcc cp1_1a),tA (qGOcc cp1_1b)] 0]),(5,.ref (5,50) 1 0 (len (qGOcc d))),(8,tA (qGOcc p0)),(9,iA (cast (len (qGOcc p0)))),(10,iA o)],[((5,50),.arr 1 3 (qGOcc d))]⟩:St))
  (fun(j:List GOcc)=>(⟨[(5,.ref (5,50) 1 0 (len (qGOcc j)))],[((5,50),.arr 1 3 (qGOcc j))]⟩:St)) (fun x=>x) (.exit 0)
  (i0:=(_,_)) w (fun _=>rfl) ?_ ?_ ?_
 ·rintro⟨s,z⟩ e
  refine aq [] ?_
  cbv
  all_goals exact J2
 rintro j hx
 subst G
 have hh:=y
 cbv
 exact Eb
 rintro n ⟨d,o⟩ J K hh p A H
 try dsimp only at hh
 unfold aW.l0 at hh
 cbv
 refine bcs (fun b=>?_) (fun b=>?_)
 replace hh:=ifT hh b
 try rw[b]
 cbv
 obtain⟨B,hh⟩:=ac hh
 obtain⟨⟨t,u,v⟩,C,hh⟩:=af hh
 try dsimp only at hh
 refine⟨[iA t,iA u,tA (qInt v)],Nb B,Gb C,?_⟩
 cbv
 obtain⟨I,D,hh⟩:=af hh
 refine ag hF (hg1 D) ?_
 cbv
 refine bcs (fun c=>?_) (fun c=>?_)
 replace hh:=ifT hh c
 try rw[c]
 cbv
 obtain⟨F,hh⟩:=ac hh
 refine⟨⟨Ob,Ab⟩,?_⟩
 refine⟨⟨Ob,Wb F⟩,?_⟩
 ·refine p (_,_) _ hh fun⟨s,z⟩ e=>?_
  refine aq [((5,50),(20,0))] ?_
  cbv
  all_goals exact J2
 replace hh:=ifF hh c
 try rw[c]
 cbv
 ·refine p (_,_) _ hh fun⟨s,z⟩ e=>?_
  refine ai ?_
  cbv
  all_goals exact J2
 replace hh:=ifF hh b
 try rw[b]
 cbv
 ·refine A _ _ hh fun s e=>?_
  refine ai ?_
  cbv
  all_goals exact J1

theorem nI {k:Nat} {p0:ax} {p1:GOcc} {r:List GOcc} (hh:ep.f k p0 p1=some r):ak P 238 [.agg [tA (qGOcc p0.Left),tA (qGOcc p0.Mid)],.agg [iA p1.From,iA p1.To,tA (qInt p1.Ids)]] [hA,hA] (oA 3 (qGOcc r)):=by
 obtain⟨p0a,p0b⟩:=p0
 obtain⟨p1a,p1b,p1c⟩:=p1
 unfold ep.f at hh
 refine go (ts:=[(4,none)]) (rm:=[.own]) (pm:=[.skip,.skip]) Tryz.func238 ?_
 unhygienic intros
 cbv
 obtain⟨c,b,hh⟩:=af hh
 refine ag hF (kZ hQ (g1:=fun y0=>fW.f k y0 ((⟨p1a,p1b,p1c⟩:GOcc)) ((⟨p0a,p0b⟩:ax))) (fun h=>ry hQ h) b) ?_
 cbv
 exact Eb

theorem kW {k:Nat} {p0:ax} {p1:Int} {p2:List GOcc} {p3:List GOcc} {p4:List GOcc} {r:ax×(List GOcc)} (hh:bK.f k p0 p1 p2 p3 p4=some r):ak P 200 [.agg [tA (qGOcc p0.Left),tA (qGOcc p0.Mid)],iA p1,tA (qGOcc p2),tA (qGOcc p3),tA (qGOcc p4)] [hA,hA,hA,hA,hA] (.tup [.agg [tA (qGOcc r.1.Left),tA (qGOcc r.1.Mid)],tA (qGOcc r.2)]):=by
 obtain⟨p0a,p0b⟩:=p0
 unfold bK.f at hh
 refine go (ts:=[(10,some 173),(11,none)]) (rm:=[.val,.val]) (pm:=[.skip,.skip,.skip,.skip,.skip]) Tryz.func200 ?_
 unhygienic intros
 cbv
 obtain⟨O,v,w⟩:=af hh
 refine ay hC eok mixed (fun n (i:(List GOcc)×(List GOcc)×Int)=>bK.l0 k (⟨p0a,p0b⟩:ax) p1 p4 n i.1 i.2.1 i.2.2)
  (fun⟨c,d,j⟩=>(⟨[(1,iA p1),(2,tA (qGOcc p2)),(3,tA (qGOcc p3)),(5,.mptr (5,0) 1 0 0),(10,.mptr (10,0) 1 0 0),(12,tA (qGOcc d)),(17,tA (qGOcc p4)),(18,iA (cast (len (qGOcc p4)))),(19,iA j)],[((5,0),.box 1 [tA (qGOcc c),tA (qGOcc p0b)]),((10,0),.box 1 [.lit (.slice none 0 0),.lit (.slice none 0 0)])]⟩:St))
  (fun(⟨o,p⟩:(List GOcc)×(List GOcc))=>(⟨[(2,tA (qGOcc p2)),(3,tA (qGOcc p3)),(5,.mptr (5,0) 1 0 0),(10,.mptr (10,0) 1 0 0),(12,tA (qGOcc p))],[((5,0),.box 1 [tA (qGOcc o),tA (qGOcc p0b)]),((10,0),.box 1 [.lit (.slice none 0 0),.lit (.slice none 0 0)])]⟩:St)) (fun x=>x) (.exit 0)
  (i0:=(_,_,_)) v (fun _=>rfl) ?_ ?_ ?_
 ·rintro⟨y,z,Q⟩ e
  refine ai ?_
  cbv
  all_goals exact J3
 rintro⟨o,p⟩ hx
 subst O
 have hh:=w
 cbv
 obtain⟨R,A,hh⟩:=af hh
 refine ag hF (bL hQ A) ?_
 cbv
 obtain⟨S,B,hh⟩:=af hh
 refine ag hF (bL hQ B) ?_
 cbv
 exact Eb
 rintro n ⟨c,d,j⟩ W X hh C D T
 try dsimp only at hh
 unfold bK.l0 at hh
 cbv
 refine bcs (fun b=>?_) (fun b=>?_)
 replace hh:=ifT hh b
 try rw[b]
 cbv
 obtain⟨F,hh⟩:=ac hh
 obtain⟨⟨s,t,u⟩,G,hh⟩:=af hh
 try dsimp only at hh
 refine⟨[iA s,iA t,tA (qInt u)],Nb F,Gb G,?_⟩
 cbv
 obtain⟨U,H,hh⟩:=af hh
 refine ag hF (nI hQ H) ?_
 cbv
 obtain⟨⟨M,N⟩,I,hh⟩:=af hh
 try dsimp only at hh
 refine⟨Ob,?_⟩
 have fc:=gR hQ I
 try dsimp only at fc
 refine ag hF fc ?_
 cbv
 obtain⟨V,J,hh⟩:=af hh
 refine ag hF (bL hQ J) ?_
 cbv
 obtain⟨K,L,hh⟩:=af hh
 refine ag hF (ak.frz (r':=tA (qGOcc K)) (jv hQ L) (by cases hQ;simp)) ?_
 cbv
 ·refine C (_,_,_) _ hh fun⟨y,z,Q⟩ e=>?_
  refine ai ?_
  cbv
  all_goals exact J3
 replace hh:=ifF hh b
 try rw[b]
 cbv
 ·refine D (_,_) _ hh fun⟨y,z⟩ e=>?_
  refine ai ?_
  cbv
  all_goals exact J2

theorem jY {k:Nat} {p0:ax} {p1:Int} {p2:List GOcc} {p3:List GOcc} {p4:List GOcc} {r:ax×(List GOcc)} (hh:bH.f k p0 p1 p2 p3 p4=some r):ak P 201 [.agg [tA (qGOcc p0.Left),tA (qGOcc p0.Mid)],iA p1,tA (qGOcc p2),tA (qGOcc p3),tA (qGOcc p4)] [hA,hA,hA,hA,hA] (.tup [.agg [tA (qGOcc r.1.Left),tA (qGOcc r.1.Mid)],tA (qGOcc r.2)]):=by
 obtain⟨p0a,p0b⟩:=p0
 unfold bH.f at hh
 refine go (ts:=[(10,some 173),(11,none)]) (rm:=[.val,.val]) (pm:=[.skip,.skip,.skip,.skip,.skip]) Tryz.func201 ?_
 unhygienic intros
 cbv
 obtain⟨J,t,u⟩:=af hh
 refine ay hC eok mixed (fun n (i:(List GOcc)×Int)=>bH.l0 k (⟨p0a,p0b⟩:ax) p1 p3 n i.1 i.2)
  (fun⟨c,d⟩=>(⟨[(1,iA p1),(2,tA (qGOcc p2)),(4,tA (qGOcc p4)),(5,.mptr (5,0) 1 0 0),(10,.mptr (10,0) 1 0 0),(12,tA (qGOcc c)),(17,tA (qGOcc p3)),(18,iA (cast (len (qGOcc p3)))),(19,iA d)],[((5,0),.box 1 [tA (qGOcc p0a),tA (qGOcc p0b)]),((10,0),.box 1 [.lit (.slice none 0 0),.lit (.slice none 0 0)])]⟩:St))
  (fun(j:List GOcc)=>(⟨[(2,tA (qGOcc p2)),(4,tA (qGOcc p4)),(5,.mptr (5,0) 1 0 0),(10,.mptr (10,0) 1 0 0),(12,tA (qGOcc j))],[((5,0),.box 1 [tA (qGOcc p0a),tA (qGOcc p0b)]),((10,0),.box 1 [.lit (.slice none 0 0),.lit (.slice none 0 0)])]⟩:St)) (fun x=>x) (.exit 0)
  (i0:=(_,_)) t (fun _=>rfl) ?_ ?_ ?_
 ·rintro⟨v,K⟩ e
  refine ai ?_
  cbv
  all_goals exact J2
 rintro j hx
 subst J
 have hh:=u
 cbv
 obtain⟨L,w,hh⟩:=af hh
 refine ag hF (bL hQ w) ?_
 cbv
 obtain⟨M,y,hh⟩:=af hh
 refine ag hF (bL hQ y) ?_
 cbv
 exact Eb
 rintro n ⟨c,d⟩ R S hh z A N
 try dsimp only at hh
 unfold bH.l0 at hh
 cbv
 refine bcs (fun b=>?_) (fun b=>?_)
 replace hh:=ifT hh b
 try rw[b]
 cbv
 obtain⟨B,hh⟩:=ac hh
 obtain⟨⟨o,p,s⟩,C,hh⟩:=af hh
 try dsimp only at hh
 refine⟨[iA o,iA p,tA (qInt s)],Nb B,Gb C,?_⟩
 cbv
 obtain⟨O,D,hh⟩:=af hh
 refine ag hF (nI hQ D) ?_
 cbv
 obtain⟨⟨H,I⟩,F,hh⟩:=af hh
 try dsimp only at hh
 refine⟨Ob,?_⟩
 have fc:=gR hQ F
 try dsimp only at fc
 refine ag hF fc ?_
 cbv
 obtain⟨Q,G,hh⟩:=af hh
 refine ag hF (bL hQ G) ?_
 cbv
 ·refine z (_,_) _ hh fun⟨v,K⟩ e=>?_
  refine ai ?_
  cbv
  all_goals exact J2
 replace hh:=ifF hh b
 try rw[b]
 cbv
 ·refine A _ _ hh fun v e=>?_
  refine ai ?_
  cbv
  all_goals exact J1

theorem np {p0:GOcc} {r:GOcc} (hh:eT.f p0=some r):ak P 131 [.agg [iA p0.From,iA p0.To,tA (qInt p0.Ids)]] [hA] (.agg [iA r.From,iA r.To,oA 1 (qInt r.Ids)]):=by
 obtain⟨p0a,p0b,p0c⟩:=p0
 unfold eT.f at hh
 refine go (ts:=[(2,some 67)]) (rm:=[.own]) (pm:=[.skip]) Tryz.func131 ?_
 unhygienic intros
 cbv
 obtain⟨b,hh⟩:=ac hh
 try dsimp only at b
 refine⟨⟨Ab,Ab⟩,?_⟩
 refine⟨Wb b,?_⟩
 exact Eb

theorem kM {p0:GOcc} {p1:Int} {r:GOcc} (hh:eh.f p0 p1=some r):ak P 202 [.agg [iA p0.From,iA p0.To,tA (qInt p0.Ids)],iA p1] [hA,hA] (.agg [iA r.From,iA r.To,oA 1 (qInt r.Ids)]):=by
 obtain⟨p0a,p0b,p0c⟩:=p0
 unfold eh.f at hh
 refine go (ts:=[(4,some 67)]) (rm:=[.own]) (pm:=[.skip,.skip]) Tryz.func202 ?_
 unhygienic intros
 cbv
 obtain⟨⟨c,d,j⟩,b,hh⟩:=af hh
 try dsimp only at hh
 have fc:=np hQ b
 try dsimp only at fc
 refine ag hF fc ?_
 cbv
 exact Eb

end Go.Proofs.YtlbnmldopjadoaaGreat
