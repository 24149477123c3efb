/- The functions of this program do what the plain ones do. -/
import Derived.Test.YtlbnmldopjadoaaGreatC4
namespace Go.Proofs.YtlbnmldopjadoaaGreat
open Go Go.Vm
set_option linter.unusedVariables false
set_option maxHeartbeats 4000000
set_option maxRecDepth 4000
variable {qIu8:Vm.RW Int} {qGEx:Vm.RW GEx} {qGRule:Vm.RW GRule} {qStr:Vm.RW ByteArray} {qInt:Vm.RW Int} {qGExO:Vm.RW GEx} {qGOcc:Vm.RW GOcc} {qGNode:Vm.RW GNode} {qGNodeS:Vm.RW GNode} {qGGraphS2:Vm.RW GGraph} {qGGraph:Vm.RW GGraph} {qGEv:Vm.RW GEv} {qGFire:Vm.RW GFire} {qGOccO:Vm.RW GOcc} {qLGOcc:Vm.RW (List GOcc)} {qBool:Vm.RW Bool} {qGGraphS:Vm.RW GGraph} {qLInt:Vm.RW (List Int)} (hQ:EQ qIu8 qGEx qGRule qStr qInt qGExO qGOcc qGNode qGNodeS qGGraphS2 qGGraph qGEv qGFire qGOccO qLGOcc qBool qGGraphS qLInt)
include hQ
theorem rJ {k:Nat} {p0:GGraph} {p1:Int} {p2:Int} {r:GGraph×(List GOcc)} (hh:aK.f k p0 p1 p2=some r):ah P 160 [.agg [iA p0.Mode,oA 10 (qGNodeS p0.Nodes),iA p0.Seen,iA p0.Now,bA p0.Full],iA p1,iA p2] [hA,hA,hA] (.tup [.agg [iA r.1.Mode,oA 10 (qGNodeS r.1.Nodes),iA r.1.Seen,iA r.1.Now,bA r.1.Full],tA (qGOcc r.2)]):=by
 obtain⟨p0a,p0b,p0c,p0d,p0e⟩:=p0
 unfold aK.f at hh
 refine gq [14] [206] [] [(6,some 91),(7,none)] [.own,.val] [.skip,.skip,.skip] Tryz.func160 ?_
 unhygienic intros
 cbv
 obtain⟨o1,L9,hq1⟩:=ag hh
 refine lgq [14] [206] [] hC (U5 (aK.l0 k (⟨p0a,p0b,p0c,p0d,p0e⟩:GGraph) p1 p2))
  (fun⟨s,A,y,z,B⟩=>⟨[(1,iA p1),(2,iA p2),(3,mA (3,0)),(6,mA (6,0)),(8,rA (12,0) (len (qLGOcc y))),(9,iA z),(1000000,.agg [iA p0a,rA (0,0) (len (qGNodeS s)),iA p0c,iA p0d,bA B])],[((0,0),.arr 1 10 (qGNodeS s)),((3,0),.box 1 [iA p0a,rA (0,0) (len (qGNodeS s)),iA p0c,iA p0d,bA A]),((6,0),.box 1 [iA 0,zA,iA 0,iA 0,bA false]),((12,0),.arr 1 1 (qLGOcc y))]⟩)
  (fun⟨Iz,IX,IP,I1⟩=>⟨[(3,mA (3,0)),(6,mA (6,0)),(8,rA (12,0) (len (qLGOcc IP))),(1000000,.agg [iA p0a,rA (0,0) (len (qGNodeS Iz)),iA p0c,iA p0d,bA I1])],[((0,0),.arr 1 10 (qGNodeS Iz)),((3,0),.box 1 [iA p0a,rA (0,0) (len (qGNodeS Iz)),iA p0c,iA p0d,bA IX]),((6,0),.box 1 [iA 0,zA,iA 0,iA 0,bA false]),((12,0),.arr 1 1 (qLGOcc IP))]⟩) (fun x=>x) (.exit 0)
  (i0:=(_,_,_,_,_)) L9 (fun⟨t0,t1,t2,t3,t4⟩ e=>kA) ?_ ?_
 rintro⟨Iz,IX,IP,I1⟩ hx
 subst o1
 have hh:=hq1
 cbv
 obtain⟨Mc,hh⟩:=ae hh
 exact D
 rintro n ⟨s,A,y,z,B⟩ N1 D1 hh hN1 hD1 hQ1
 dsimp only[U5] at hh
 unfold aK.l0 at hh
 cbv
 refine bcs (fun F=>?_) (fun F=>?_)
 replace hh:=ifT hh F
 try rw[F]
 cbv
 obtain⟨Jo,hh⟩:=ae hh
 obtain⟨Jp,hh⟩:=ae hh
 refine⟨Nb Jo,Mb Jp,?_⟩
 obtain⟨⟨d,j,o,b,⟨t,u⟩,⟨v,w⟩,c,p⟩,Jq,hh⟩:=ag hh
 try dsimp only at hh
 refine⟨_,Gk (mc qInt qGOcc) Jq,?_⟩
 cbv
 refine bcs (fun C=>?_) (fun C=>?_)
 replace hh:=ifT hh C
 try rw[C]
 cbv
 refine bcs (fun G=>?_) (fun G=>?_)
 replace hh:=ifT hh G
 try rw[G]
 cbv
 refine⟨Ob,?_⟩
 obtain⟨Jr,hh⟩:=ae hh
 refine⟨⟨Ob,Ab⟩,?_⟩
 refine⟨⟨Ob,Wb Jr⟩,?_⟩
 refine bcs (fun H=>?_) (fun H=>?_)
 replace hh:=ifT hh H
 try rw[H]
 cbv
 obtain⟨Js,hh⟩:=ae hh
 obtain⟨Jt,hh⟩:=ae hh
 refine⟨Nb Js,Mb Jt,?_⟩
 try refine⟨rfl,?_⟩
 refine eK hC (bH [14] [206] []) mixed [(43,0)] ?_
 cbv
 refine⟨Ob,?_⟩
 obtain⟨Ju,hh⟩:=ae hh
 refine⟨⟨Ob,Ab⟩,?_⟩
 refine⟨⟨Ob,Wb Ju⟩,?_⟩
 ·refine hN1 (_,_,_,_,_) _ hh fun⟨t0,t1,t2,t3,t4⟩ e=>?_
  refine dh hC (0,0) ?_
  cbv
  refine bm [((0,0),(0,0)),((3,0),(3,0)),((6,0),(6,0)),((12,0),(78,0))] ?_
  cbv
  all_goals exact Jz
 replace hh:=ifF hh H
 try rw[H]
 cbv
 obtain⟨Jv,hh⟩:=ae hh
 obtain⟨Jw,hh⟩:=ae hh
 refine⟨Nb Jv,Mb Jw,?_⟩
 try refine⟨rfl,?_⟩
 refine eK hC (bH [14] [206] []) mixed [(43,0)] ?_
 cbv
 refine⟨Ob,?_⟩
 obtain⟨Jx,hh⟩:=ae hh
 refine⟨⟨Ob,Ab⟩,?_⟩
 refine⟨⟨Ob,Wb Jx⟩,?_⟩
 ·refine hN1 (_,_,_,_,_) _ hh fun⟨t0,t1,t2,t3,t4⟩ e=>?_
  refine dh hC (0,0) ?_
  cbv
  refine bm [((0,0),(0,0)),((3,0),(3,0)),((6,0),(6,0)),((12,0),(78,0))] ?_
  cbv
  all_goals exact Jz
 replace hh:=ifF hh G
 try rw[G]
 cbv
 first|rw[C]|(have g:=C;cbv at g;rw[g])
 cbv
 refine bcs (fun I=>?_) (fun I=>?_)
 replace hh:=ifT hh I
 try rw[I]
 cbv
 obtain⟨Jy,hh⟩:=ae hh
 obtain⟨JA,hh⟩:=ae hh
 refine⟨Nb Jy,Mb JA,?_⟩
 try refine⟨rfl,?_⟩
 refine eK hC (bH [14] [206] []) mixed [(25,0)] ?_
 cbv
 refine⟨Ob,?_⟩
 obtain⟨JB,hh⟩:=ae hh
 refine⟨⟨Ob,Ab⟩,?_⟩
 refine⟨⟨Ob,Wb JB⟩,?_⟩
 ·refine hN1 (_,_,_,_,_) _ hh fun⟨t0,t1,t2,t3,t4⟩ e=>?_
  refine dh hC (0,0) ?_
  cbv
  refine bm [((0,0),(0,0)),((3,0),(3,0)),((6,0),(6,0)),((12,0),(78,0))] ?_
  cbv
  all_goals exact Jz
 replace hh:=ifF hh I
 try rw[I]
 cbv
 obtain⟨JC,hh⟩:=ae hh
 obtain⟨JD,hh⟩:=ae hh
 refine⟨Nb JC,Mb JD,?_⟩
 try refine⟨rfl,?_⟩
 refine eK hC (bH [14] [206] []) mixed [(25,0)] ?_
 cbv
 refine⟨Ob,?_⟩
 obtain⟨JE,hh⟩:=ae hh
 refine⟨⟨Ob,Ab⟩,?_⟩
 refine⟨⟨Ob,Wb JE⟩,?_⟩
 ·refine hN1 (_,_,_,_,_) _ hh fun⟨t0,t1,t2,t3,t4⟩ e=>?_
  refine dh hC (0,0) ?_
  cbv
  refine bm [((0,0),(0,0)),((3,0),(3,0)),((6,0),(6,0)),((12,0),(78,0))] ?_
  cbv
  all_goals exact Jz
 replace hh:=ifF hh C
 try rw[C]
 cbv
 first|rw[C]|(have g:=C;cbv at g;rw[g])
 cbv
 refine AO hC (bH [14] [206] []) mixed (ts:=[(8,some 175),(9,none)]) ⟨[(0,iA p0a),(1,.agg [iA d,iA j,iA o,rA (1024,0) (len (qInt b)),rA (1024,1) (len (qGOcc t)),rA (1024,2) (len (qGOcc u)),rA (1024,3) (len (qGOcc v)),rA (1024,4) (len (qGOcc w)),rA (1024,5) (len (qGOcc c)),iA p]),(2,iA p1),(3,rA (1012,0) (len (qLGOcc y))),(2000001,iA p1),(2000002,iA p2),(2000003,mA (1003,0)),(2000006,mA (1006,0)),(2000008,rA (1012,0) (len (qLGOcc y))),(2000009,iA z),(2000010,mA (1010,0)),(3000000,.agg [iA p0a,rA (1000,0) (len (qGNodeS s)),iA p0c,iA p0d,bA B])],[((1000,0),.opn 1 10 (qGNodeS s) (nadd 0 (toNat z)) [iA d,iA j,iA o,rA (1024,0) (len (qInt b)),rA (1024,1) (len (qGOcc t)),rA (1024,2) (len (qGOcc u)),rA (1024,3) (len (qGOcc v)),rA (1024,4) (len (qGOcc w)),rA (1024,5) (len (qGOcc c)),iA p]),((1003,0),.box 1 [iA p0a,rA (1000,0) (len (qGNodeS s)),iA p0c,iA p0d,bA A]),((1006,0),.box 1 [iA 0,zA,iA 0,iA 0,bA false]),((1010,0),.box 1 [iA d,iA j,iA o,rA (1024,0) (len (qInt b)),rA (1024,1) (len (qGOcc t)),rA (1024,2) (len (qGOcc u)),rA (1024,3) (len (qGOcc v)),rA (1024,4) (len (qGOcc w)),rA (1024,5) (len (qGOcc c)),iA p]),((1012,0),.arr 1 1 (qLGOcc y)),((1024,0),.arr 1 1 (qInt b)),((1024,1),.arr 1 3 (qGOcc t)),((1024,2),.arr 1 3 (qGOcc u)),((1024,3),.arr 1 3 (qGOcc v)),((1024,4),.arr 1 3 (qGOcc w)),((1024,5),.arr 1 3 (qGOcc c))]⟩ Tryz.func206 (by kernel_rfl) (by kernel_rfl) ?_ ?_
 ·refine bm [((1000,0),(0,0)),((1003,0),(3,0)),((1006,0),(6,0)),((1010,0),(10,0)),((1012,0),(12,0)),((1024,0),(24,0)),((1024,1),(24,1)),((1024,2),(24,2)),((1024,3),(24,3)),((1024,4),(24,4)),((1024,5),(24,5))] ?_
  cbv
  all_goals exact Zb
 cbv
 refine bcs (fun J=>?_) (fun J=>?_)
 replace hh:=ifT hh J
 try rw[J]
 cbv
 obtain⟨JF,hh⟩:=ae hh
 obtain⟨I3,hh⟩:=ae hh
 try dsimp only at I3
 refine⟨Nb JF,Mb I3,?_⟩
 obtain⟨JG,JH,hh⟩:=ag hh
 refine⟨[iA JG],Gb JH,?_⟩
 cbv
 obtain⟨JI,hh⟩:=ae hh
 obtain⟨JJ,hh⟩:=ae hh
 refine⟨Nb JI,Mb JJ,?_⟩
 obtain⟨JK,JL,hh⟩:=ag hh
 refine⟨[tA (qGOcc JK)],Gb JL,?_⟩
 cbv
 obtain⟨JM,JN,hh⟩:=ag hh
 refine ak hF (ah.frzIn (r':=oA 3 (qGOcc JM)) (kT hQ JN) (by cases hQ;simp)) ?_
 cbv
 obtain⟨JO,hh⟩:=ae hh
 obtain⟨I6,hh⟩:=ae hh
 try dsimp only at I6
 refine⟨Nb JO,Mb I6,?_⟩
 obtain⟨JP,JQ,hh⟩:=ag hh
 refine⟨[iA JP],Gb JQ,?_⟩
 cbv
 obtain⟨JR,hh⟩:=ae hh
 obtain⟨JS,hh⟩:=ae hh
 refine⟨Nb JR,Mb JS,?_⟩
 obtain⟨JT,JU,hh⟩:=ag hh
 refine⟨[tA (qGOcc JT)],Gb JU,?_⟩
 cbv
 obtain⟨Jb,JV,hh⟩:=ag hh
 refine ak hF (ah.frz (r':=tA (qGOcc Jb)) (eu hQ JV) (by cases hQ;simp)) ?_
 cbv
 refine⟨⟨⟨[(1,iA p1),(2,iA p2),(3,mA (3,0)),(6,mA (6,0)),(8,rA (12,0) (len (qLGOcc y))),(9,iA z),(10,mA (10,0)),(53,.tup [.agg [iA d,iA j,iA o,rA (24,0) (len (qInt b)),rA (24,1) (len (qGOcc t)),rA (24,2) (len (qGOcc u)),rA (24,3) (len (qGOcc v)),rA (24,4) (len (qGOcc w)),rA (24,5) (len (qGOcc c)),iA p],tA (qGOcc Jb)]),(1000000,.agg [iA p0a,rA (0,0) (len (qGNodeS s)),iA p0c,iA p0d,bA B])],[((0,0),.opn 1 10 (qGNodeS s) (nadd 0 (toNat z)) [iA d,iA j,iA o,rA (24,0) (len (qInt b)),rA (24,1) (len (qGOcc t)),rA (24,2) (len (qGOcc u)),rA (24,3) (len (qGOcc v)),rA (24,4) (len (qGOcc w)),rA (24,5) (len (qGOcc c)),iA p]),((3,0),.box 1 [iA p0a,rA (0,0) (len (qGNodeS s)),iA p0c,iA p0d,bA A]),((6,0),.box 1 [iA 0,zA,iA 0,iA 0,bA false]),((10,0),.box 1 [iA d,iA j,iA o,rA (24,0) (len (qInt b)),rA (24,1) (len (qGOcc t)),rA (24,2) (len (qGOcc u)),rA (24,3) (len (qGOcc v)),rA (24,4) (len (qGOcc w)),rA (24,5) (len (qGOcc c)),iA p]),((12,0),.arr 1 1 (qLGOcc y)),((24,0),.arr 1 1 (qInt b)),((24,1),.arr 1 3 (qGOcc t)),((24,2),.arr 1 3 (qGOcc u)),((24,3),.arr 1 3 (qGOcc v)),((24,4),.arr 1 3 (qGOcc w)),((24,5),.arr 1 3 (qGOcc c))]⟩,?_,?_⟩,trivial⟩
 ·refine bm [((0,0),(1000,0)),((3,0),(1003,0)),((6,0),(1006,0)),((10,0),(1010,0)),((12,0),(1012,0)),((24,0),(1024,0)),((24,1),(1024,1)),((24,2),(1024,2)),((24,3),(1024,3)),((24,4),(1024,4)),((24,5),(1024,5))] ?_
  cbv
  all_goals exact Zb
 cbv
 refine bcs (fun K=>?_) (fun K=>?_)
 replace hh:=ifT hh K
 try rw[K]
 cbv
 obtain⟨JW,hh⟩:=ae hh
 obtain⟨JX,hh⟩:=ae hh
 refine⟨Nb JW,Mb JX,?_⟩
 try refine⟨rfl,?_⟩
 refine eK hC (bH [14] [206] []) mixed [] ?_
 cbv
 obtain⟨JY,hh⟩:=ae hh
 refine⟨⟨Ob,Ab⟩,?_⟩
 refine⟨⟨Ob,Wb JY⟩,?_⟩
 ·refine hN1 (_,_,_,_,_) _ hh fun⟨t0,t1,t2,t3,t4⟩ e=>?_
  refine dh hC (0,0) ?_
  cbv
  refine bm [((0,0),(0,0)),((3,0),(3,0)),((6,0),(6,0)),((12,0),(78,0))] ?_
  cbv
  all_goals exact Jz
 replace hh:=ifF hh K
 try rw[K]
 cbv
 obtain⟨JZ,hh⟩:=ae hh
 obtain⟨J0,hh⟩:=ae hh
 refine⟨Nb JZ,Mb J0,?_⟩
 try refine⟨rfl,?_⟩
 refine eK hC (bH [14] [206] []) mixed [] ?_
 cbv
 obtain⟨J1,hh⟩:=ae hh
 refine⟨⟨Ob,Ab⟩,?_⟩
 refine⟨⟨Ob,Wb J1⟩,?_⟩
 ·refine hN1 (_,_,_,_,_) _ hh fun⟨t0,t1,t2,t3,t4⟩ e=>?_
  refine dh hC (0,0) ?_
  cbv
  refine bm [((0,0),(0,0)),((3,0),(3,0)),((6,0),(6,0)),((12,0),(78,0))] ?_
  cbv
  all_goals exact Jz
 replace hh:=ifF hh J
 try rw[J]
 cbv
 refine bcs (fun L=>?_) (fun L=>?_)
 replace hh:=ifT hh L
 try rw[L]
 cbv
 obtain⟨J2,hh⟩:=ae hh
 obtain⟨Jc,hh⟩:=ae hh
 try dsimp only at Jc
 refine⟨Nb J2,Mb Jc,?_⟩
 obtain⟨J3,J4,hh⟩:=ag hh
 refine⟨[iA J3],Gb J4,?_⟩
 cbv
 obtain⟨J5,hh⟩:=ae hh
 obtain⟨J6,hh⟩:=ae hh
 refine⟨Nb J5,Mb J6,?_⟩
 obtain⟨J7,J8,hh⟩:=ag hh
 refine⟨[tA (qGOcc J7)],Gb J8,?_⟩
 cbv
 obtain⟨J9,hh⟩:=ae hh
 obtain⟨Jd,hh⟩:=ae hh
 try dsimp only at Jd
 refine⟨Nb J9,Mb Jd,?_⟩
 obtain⟨Ka,Kb,hh⟩:=ag hh
 refine⟨[iA Ka],Gb Kb,?_⟩
 cbv
 obtain⟨Kc,hh⟩:=ae hh
 obtain⟨Kd,hh⟩:=ae hh
 refine⟨Nb Kc,Mb Kd,?_⟩
 obtain⟨Ke,Kf,hh⟩:=ag hh
 refine⟨[tA (qGOcc Ke)],Gb Kf,?_⟩
 cbv
 obtain⟨⟨⟨X,Y⟩,IC⟩,Kg,hh⟩:=ag hh
 try dsimp only at hh
 have fc:=AG hQ Kg
 try dsimp only at fc
 refine ak hF fc ?_
 cbv
 refine⟨⟨⟨[(1,iA p1),(2,iA p2),(3,mA (3,0)),(6,mA (6,0)),(8,rA (12,0) (len (qLGOcc y))),(9,iA z),(10,mA (10,0)),(53,.tup [.agg [iA d,iA j,iA o,rA (24,0) (len (qInt b)),rA (2053,0) (len (qGOcc X)),rA (2053,1) (len (qGOcc Y)),rA (24,3) (len (qGOcc v)),rA (24,4) (len (qGOcc w)),rA (24,5) (len (qGOcc c)),iA p],rA (2053,2) (len (qGOcc IC))]),(1000000,.agg [iA p0a,rA (0,0) (len (qGNodeS s)),iA p0c,iA p0d,bA B])],[((0,0),.opn 1 10 (qGNodeS s) (nadd 0 (toNat z)) [iA d,iA j,iA o,rA (24,0) (len (qInt b)),hA,hA,rA (24,3) (len (qGOcc v)),rA (24,4) (len (qGOcc w)),rA (24,5) (len (qGOcc c)),iA p]),((3,0),.box 1 [iA p0a,rA (0,0) (len (qGNodeS s)),iA p0c,iA p0d,bA A]),((6,0),.box 1 [iA 0,zA,iA 0,iA 0,bA false]),((10,0),.box 1 [iA d,iA j,iA o,rA (24,0) (len (qInt b)),hA,hA,rA (24,3) (len (qGOcc v)),rA (24,4) (len (qGOcc w)),rA (24,5) (len (qGOcc c)),iA p]),((12,0),.arr 1 1 (qLGOcc y)),((24,0),.arr 1 1 (qInt b)),((24,3),.arr 1 3 (qGOcc v)),((24,4),.arr 1 3 (qGOcc w)),((24,5),.arr 1 3 (qGOcc c)),((2053,0),.arr 1 3 (qGOcc X)),((2053,1),.arr 1 3 (qGOcc Y)),((2053,2),.arr 1 3 (qGOcc IC))]⟩,?_,?_⟩,trivial⟩
 ·refine bm [((0,0),(1000,0)),((3,0),(1003,0)),((6,0),(1006,0)),((10,0),(1010,0)),((12,0),(1012,0)),((24,0),(1024,0)),((24,3),(1024,3)),((24,4),(1024,4)),((24,5),(1024,5)),((2053,0),(53,0)),((2053,1),(53,1)),((2053,2),(53,2))] ?_
  cbv
  all_goals exact Zb
 cbv
 refine bcs (fun M=>?_) (fun M=>?_)
 replace hh:=ifT hh M
 try rw[M]
 cbv
 obtain⟨Kh,hh⟩:=ae hh
 obtain⟨Ki,hh⟩:=ae hh
 refine⟨Nb Kh,Mb Ki,?_⟩
 try refine⟨rfl,?_⟩
 refine eK hC (bH [14] [206] []) mixed [(2053,2)] ?_
 cbv
 refine⟨Ob,?_⟩
 obtain⟨Kj,hh⟩:=ae hh
 refine⟨⟨Ob,Ab⟩,?_⟩
 refine⟨⟨Ob,Wb Kj⟩,?_⟩
 ·refine hN1 (_,_,_,_,_) _ hh fun⟨t0,t1,t2,t3,t4⟩ e=>?_
  refine dh hC (0,0) ?_
  cbv
  refine bm [((0,0),(0,0)),((3,0),(3,0)),((6,0),(6,0)),((12,0),(78,0))] ?_
  cbv
  all_goals exact Jz
 replace hh:=ifF hh M
 try rw[M]
 cbv
 obtain⟨Kk,hh⟩:=ae hh
 obtain⟨Kl,hh⟩:=ae hh
 refine⟨Nb Kk,Mb Kl,?_⟩
 try refine⟨rfl,?_⟩
 refine eK hC (bH [14] [206] []) mixed [(2053,2)] ?_
 cbv
 refine⟨Ob,?_⟩
 obtain⟨Km,hh⟩:=ae hh
 refine⟨⟨Ob,Ab⟩,?_⟩
 refine⟨⟨Ob,Wb Km⟩,?_⟩
 ·refine hN1 (_,_,_,_,_) _ hh fun⟨t0,t1,t2,t3,t4⟩ e=>?_
  refine dh hC (0,0) ?_
  cbv
  refine bm [((0,0),(0,0)),((3,0),(3,0)),((6,0),(6,0)),((12,0),(78,0))] ?_
  cbv
  all_goals exact Jz
 replace hh:=ifF hh L
 try rw[L]
 cbv
 refine bcs (fun N=>?_) (fun N=>?_)
 replace hh:=ifT hh N
 try rw[N]
 cbv
 obtain⟨Ko,hh⟩:=ae hh
 obtain⟨Je,hh⟩:=ae hh
 try dsimp only at Je
 refine⟨Nb Ko,Mb Je,?_⟩
 obtain⟨Kp,Kq,hh⟩:=ag hh
 refine⟨[iA Kp],Gb Kq,?_⟩
 cbv
 obtain⟨Kr,hh⟩:=ae hh
 obtain⟨Ks,hh⟩:=ae hh
 refine⟨Nb Kr,Mb Ks,?_⟩
 obtain⟨Kt,Ku,hh⟩:=ag hh
 refine⟨[tA (qGOcc Kt)],Gb Ku,?_⟩
 cbv
 obtain⟨Kv,hh⟩:=ae hh
 obtain⟨Jf,hh⟩:=ae hh
 try dsimp only at Jf
 refine⟨Nb Kv,Mb Jf,?_⟩
 obtain⟨Kw,Kx,hh⟩:=ag hh
 refine⟨[iA Kw],Gb Kx,?_⟩
 cbv
 obtain⟨Ky,hh⟩:=ae hh
 obtain⟨Kz,hh⟩:=ae hh
 refine⟨Nb Ky,Mb Kz,?_⟩
 obtain⟨KA,KC,hh⟩:=ag hh
 refine⟨[tA (qGOcc KA)],Gb KC,?_⟩
 cbv
 obtain⟨⟨⟨Z,eS⟩,IG⟩,KD,hh⟩:=ag hh
 try dsimp only at hh
 have fc:=Ce hQ KD
 try dsimp only at fc
 refine ak hF fc ?_
 cbv
 refine⟨⟨⟨[(1,iA p1),(2,iA p2),(3,mA (3,0)),(6,mA (6,0)),(8,rA (12,0) (len (qLGOcc y))),(9,iA z),(10,mA (10,0)),(53,.tup [.agg [iA d,iA j,iA o,rA (24,0) (len (qInt b)),rA (2077,0) (len (qGOcc Z)),rA (2077,1) (len (qGOcc eS)),rA (24,3) (len (qGOcc v)),rA (24,4) (len (qGOcc w)),rA (24,5) (len (qGOcc c)),iA p],rA (2077,2) (len (qGOcc IG))]),(1000000,.agg [iA p0a,rA (0,0) (len (qGNodeS s)),iA p0c,iA p0d,bA B])],[((0,0),.opn 1 10 (qGNodeS s) (nadd 0 (toNat z)) [iA d,iA j,iA o,rA (24,0) (len (qInt b)),hA,hA,rA (24,3) (len (qGOcc v)),rA (24,4) (len (qGOcc w)),rA (24,5) (len (qGOcc c)),iA p]),((3,0),.box 1 [iA p0a,rA (0,0) (len (qGNodeS s)),iA p0c,iA p0d,bA A]),((6,0),.box 1 [iA 0,zA,iA 0,iA 0,bA false]),((10,0),.box 1 [iA d,iA j,iA o,rA (24,0) (len (qInt b)),hA,hA,rA (24,3) (len (qGOcc v)),rA (24,4) (len (qGOcc w)),rA (24,5) (len (qGOcc c)),iA p]),((12,0),.arr 1 1 (qLGOcc y)),((24,0),.arr 1 1 (qInt b)),((24,3),.arr 1 3 (qGOcc v)),((24,4),.arr 1 3 (qGOcc w)),((24,5),.arr 1 3 (qGOcc c)),((2077,0),.arr 1 3 (qGOcc Z)),((2077,1),.arr 1 3 (qGOcc eS)),((2077,2),.arr 1 3 (qGOcc IG))]⟩,?_,?_⟩,trivial⟩
 ·refine bm [((0,0),(1000,0)),((3,0),(1003,0)),((6,0),(1006,0)),((10,0),(1010,0)),((12,0),(1012,0)),((24,0),(1024,0)),((24,3),(1024,3)),((24,4),(1024,4)),((24,5),(1024,5)),((2077,0),(77,0)),((2077,1),(77,1)),((2077,2),(77,2))] ?_
  cbv
  all_goals exact Zb
 cbv
 refine bcs (fun O=>?_) (fun O=>?_)
 replace hh:=ifT hh O
 try rw[O]
 cbv
 obtain⟨KE,hh⟩:=ae hh
 obtain⟨KG,hh⟩:=ae hh
 refine⟨Nb KE,Mb KG,?_⟩
 try refine⟨rfl,?_⟩
 refine eK hC (bH [14] [206] []) mixed [(2077,2)] ?_
 cbv
 refine⟨Ob,?_⟩
 obtain⟨KH,hh⟩:=ae hh
 refine⟨⟨Ob,Ab⟩,?_⟩
 refine⟨⟨Ob,Wb KH⟩,?_⟩
 ·refine hN1 (_,_,_,_,_) _ hh fun⟨t0,t1,t2,t3,t4⟩ e=>?_
  refine dh hC (0,0) ?_
  cbv
  refine bm [((0,0),(0,0)),((3,0),(3,0)),((6,0),(6,0)),((12,0),(78,0))] ?_
  cbv
  all_goals exact Jz
 replace hh:=ifF hh O
 try rw[O]
 cbv
 obtain⟨KJ,hh⟩:=ae hh
 obtain⟨KK,hh⟩:=ae hh
 refine⟨Nb KJ,Mb KK,?_⟩
 try refine⟨rfl,?_⟩
 refine eK hC (bH [14] [206] []) mixed [(2077,2)] ?_
 cbv
 refine⟨Ob,?_⟩
 obtain⟨KL,hh⟩:=ae hh
 refine⟨⟨Ob,Ab⟩,?_⟩
 refine⟨⟨Ob,Wb KL⟩,?_⟩
 ·refine hN1 (_,_,_,_,_) _ hh fun⟨t0,t1,t2,t3,t4⟩ e=>?_
  refine dh hC (0,0) ?_
  cbv
  refine bm [((0,0),(0,0)),((3,0),(3,0)),((6,0),(6,0)),((12,0),(78,0))] ?_
  cbv
  all_goals exact Jz
 replace hh:=ifF hh N
 try rw[N]
 cbv
 refine bcs (fun Q=>?_) (fun Q=>?_)
 replace hh:=ifT hh Q
 try rw[Q]
 cbv
 obtain⟨KM,hh⟩:=ae hh
 obtain⟨Jg,hh⟩:=ae hh
 try dsimp only at Jg
 refine⟨Nb KM,Mb Jg,?_⟩
 obtain⟨KN,KO,hh⟩:=ag hh
 refine⟨[iA KN],Gb KO,?_⟩
 cbv
 obtain⟨KP,hh⟩:=ae hh
 obtain⟨KQ,hh⟩:=ae hh
 refine⟨Nb KP,Mb KQ,?_⟩
 obtain⟨KR,KS,hh⟩:=ag hh
 refine⟨[tA (qGOcc KR)],Gb KS,?_⟩
 cbv
 obtain⟨KT,hh⟩:=ae hh
 obtain⟨Jh,hh⟩:=ae hh
 try dsimp only at Jh
 refine⟨Nb KT,Mb Jh,?_⟩
 obtain⟨KU,KV,hh⟩:=ag hh
 refine⟨[iA KU],Gb KV,?_⟩
 cbv
 obtain⟨KW,hh⟩:=ae hh
 obtain⟨KX,hh⟩:=ae hh
 refine⟨Nb KW,Mb KX,?_⟩
 obtain⟨KY,KZ,hh⟩:=ag hh
 refine⟨[tA (qGOcc KY)],Gb KZ,?_⟩
 cbv
 obtain⟨K3,hh⟩:=ae hh
 obtain⟨Ji,hh⟩:=ae hh
 try dsimp only at Ji
 refine⟨Nb K3,Mb Ji,?_⟩
 obtain⟨K4,K5,hh⟩:=ag hh
 refine⟨[iA K4],Gb K5,?_⟩
 cbv
 obtain⟨K6,hh⟩:=ae hh
 obtain⟨K7,hh⟩:=ae hh
 refine⟨Nb K6,Mb K7,?_⟩
 obtain⟨K8,K9,hh⟩:=ag hh
 refine⟨[tA (qGOcc K8)],Gb K9,?_⟩
 cbv
 obtain⟨⟨⟨HP,Ia⟩,II⟩,La,hh⟩:=ag hh
 try dsimp only at hh
 have fc:=Cc hQ La
 try dsimp only at fc
 refine ak hF fc ?_
 cbv
 refine⟨⟨⟨[(1,iA p1),(2,iA p2),(3,mA (3,0)),(6,mA (6,0)),(8,rA (12,0) (len (qLGOcc y))),(9,iA z),(10,mA (10,0)),(53,.tup [.agg [iA d,iA j,iA o,rA (24,0) (len (qInt b)),rA (24,1) (len (qGOcc t)),rA (24,2) (len (qGOcc u)),rA (2108,0) (len (qGOcc HP)),rA (2108,1) (len (qGOcc Ia)),rA (24,5) (len (qGOcc c)),iA p],rA (2108,2) (len (qGOcc II))]),(1000000,.agg [iA p0a,rA (0,0) (len (qGNodeS s)),iA p0c,iA p0d,bA B])],[((0,0),.opn 1 10 (qGNodeS s) (nadd 0 (toNat z)) [iA d,iA j,iA o,rA (24,0) (len (qInt b)),rA (24,1) (len (qGOcc t)),rA (24,2) (len (qGOcc u)),hA,hA,rA (24,5) (len (qGOcc c)),iA p]),((3,0),.box 1 [iA p0a,rA (0,0) (len (qGNodeS s)),iA p0c,iA p0d,bA A]),((6,0),.box 1 [iA 0,zA,iA 0,iA 0,bA false]),((10,0),.box 1 [iA d,iA j,iA o,rA (24,0) (len (qInt b)),rA (24,1) (len (qGOcc t)),rA (24,2) (len (qGOcc u)),hA,hA,rA (24,5) (len (qGOcc c)),iA p]),((12,0),.arr 1 1 (qLGOcc y)),((24,0),.arr 1 1 (qInt b)),((24,1),.arr 1 3 (qGOcc t)),((24,2),.arr 1 3 (qGOcc u)),((24,5),.arr 1 3 (qGOcc c)),((2108,0),.arr 1 3 (qGOcc HP)),((2108,1),.arr 1 3 (qGOcc Ia)),((2108,2),.arr 1 3 (qGOcc II))]⟩,?_,?_⟩,trivial⟩
 ·refine bm [((0,0),(1000,0)),((3,0),(1003,0)),((6,0),(1006,0)),((10,0),(1010,0)),((12,0),(1012,0)),((24,0),(1024,0)),((24,1),(1024,1)),((24,2),(1024,2)),((24,5),(1024,5)),((2108,0),(108,0)),((2108,1),(108,1)),((2108,2),(108,2))] ?_
  cbv
  all_goals exact Zb
 cbv
 refine bcs (fun R=>?_) (fun R=>?_)
 replace hh:=ifT hh R
 try rw[R]
 cbv
 obtain⟨Lb,hh⟩:=ae hh
 obtain⟨Lc,hh⟩:=ae hh
 refine⟨Nb Lb,Mb Lc,?_⟩
 try refine⟨rfl,?_⟩
 refine eK hC (bH [14] [206] []) mixed [(2108,2)] ?_
 cbv
 refine⟨Ob,?_⟩
 obtain⟨Ld,hh⟩:=ae hh
 refine⟨⟨Ob,Ab⟩,?_⟩
 refine⟨⟨Ob,Wb Ld⟩,?_⟩
 ·refine hN1 (_,_,_,_,_) _ hh fun⟨t0,t1,t2,t3,t4⟩ e=>?_
  refine dh hC (0,0) ?_
  cbv
  refine bm [((0,0),(0,0)),((3,0),(3,0)),((6,0),(6,0)),((12,0),(78,0))] ?_
  cbv
  all_goals exact Jz
 replace hh:=ifF hh R
 try rw[R]
 cbv
 obtain⟨Le,hh⟩:=ae hh
 obtain⟨Lf,hh⟩:=ae hh
 refine⟨Nb Le,Mb Lf,?_⟩
 try refine⟨rfl,?_⟩
 refine eK hC (bH [14] [206] []) mixed [(2108,2)] ?_
 cbv
 refine⟨Ob,?_⟩
 obtain⟨Lg,hh⟩:=ae hh
 refine⟨⟨Ob,Ab⟩,?_⟩
 refine⟨⟨Ob,Wb Lg⟩,?_⟩
 ·refine hN1 (_,_,_,_,_) _ hh fun⟨t0,t1,t2,t3,t4⟩ e=>?_
  refine dh hC (0,0) ?_
  cbv
  refine bm [((0,0),(0,0)),((3,0),(3,0)),((6,0),(6,0)),((12,0),(78,0))] ?_
  cbv
  all_goals exact Jz
 replace hh:=ifF hh Q
 try rw[Q]
 cbv
 refine bcs (fun S=>?_) (fun S=>?_)
 replace hh:=ifT hh S
 try rw[S]
 cbv
 obtain⟨Lh,hh⟩:=ae hh
 obtain⟨Jj,hh⟩:=ae hh
 try dsimp only at Jj
 refine⟨Nb Lh,Mb Jj,?_⟩
 obtain⟨Li,Lj,hh⟩:=ag hh
 refine⟨[iA Li],Gb Lj,?_⟩
 cbv
 obtain⟨Lk,hh⟩:=ae hh
 obtain⟨Ll,hh⟩:=ae hh
 refine⟨Nb Lk,Mb Ll,?_⟩
 obtain⟨Lm,Ln,hh⟩:=ag hh
 refine⟨[tA (qGOcc Lm)],Gb Ln,?_⟩
 cbv
 obtain⟨Lo,hh⟩:=ae hh
 obtain⟨Jk,hh⟩:=ae hh
 try dsimp only at Jk
 refine⟨Nb Lo,Mb Jk,?_⟩
 obtain⟨Lp,Lq,hh⟩:=ag hh
 refine⟨[iA Lp],Gb Lq,?_⟩
 cbv
 obtain⟨Lr,hh⟩:=ae hh
 obtain⟨Ls,hh⟩:=ae hh
 refine⟨Nb Lr,Mb Ls,?_⟩
 obtain⟨Lt,Lu,hh⟩:=ag hh
 refine⟨[tA (qGOcc Lt)],Gb Lu,?_⟩
 cbv
 obtain⟨Lw,hh⟩:=ae hh
 obtain⟨Jl,hh⟩:=ae hh
 try dsimp only at Jl
 refine⟨Nb Lw,Mb Jl,?_⟩
 obtain⟨Lx,Ly,hh⟩:=ag hh
 refine⟨[iA Lx],Gb Ly,?_⟩
 cbv
 obtain⟨Lz,hh⟩:=ae hh
 obtain⟨LA,hh⟩:=ae hh
 refine⟨Nb Lz,Mb LA,?_⟩
 obtain⟨LB,LC,hh⟩:=ag hh
 refine⟨[tA (qGOcc LB)],Gb LC,?_⟩
 cbv
 obtain⟨⟨⟨Ic,Io⟩,IJ⟩,LD,hh⟩:=ag hh
 try dsimp only at hh
 have fc:=zu hQ LD
 try dsimp only at fc
 refine ak hF fc ?_
 cbv
 refine⟨⟨⟨[(1,iA p1),(2,iA p2),(3,mA (3,0)),(6,mA (6,0)),(8,rA (12,0) (len (qLGOcc y))),(9,iA z),(10,mA (10,0)),(53,.tup [.agg [iA d,iA j,iA o,rA (24,0) (len (qInt b)),rA (24,1) (len (qGOcc t)),rA (24,2) (len (qGOcc u)),rA (2139,0) (len (qGOcc Ic)),rA (2139,1) (len (qGOcc Io)),rA (24,5) (len (qGOcc c)),iA p],rA (2139,2) (len (qGOcc IJ))]),(1000000,.agg [iA p0a,rA (0,0) (len (qGNodeS s)),iA p0c,iA p0d,bA B])],[((0,0),.opn 1 10 (qGNodeS s) (nadd 0 (toNat z)) [iA d,iA j,iA o,rA (24,0) (len (qInt b)),rA (24,1) (len (qGOcc t)),rA (24,2) (len (qGOcc u)),hA,hA,rA (24,5) (len (qGOcc c)),iA p]),((3,0),.box 1 [iA p0a,rA (0,0) (len (qGNodeS s)),iA p0c,iA p0d,bA A]),((6,0),.box 1 [iA 0,zA,iA 0,iA 0,bA false]),((10,0),.box 1 [iA d,iA j,iA o,rA (24,0) (len (qInt b)),rA (24,1) (len (qGOcc t)),rA (24,2) (len (qGOcc u)),hA,hA,rA (24,5) (len (qGOcc c)),iA p]),((12,0),.arr 1 1 (qLGOcc y)),((24,0),.arr 1 1 (qInt b)),((24,1),.arr 1 3 (qGOcc t)),((24,2),.arr 1 3 (qGOcc u)),((24,5),.arr 1 3 (qGOcc c)),((2139,0),.arr 1 3 (qGOcc Ic)),((2139,1),.arr 1 3 (qGOcc Io)),((2139,2),.arr 1 3 (qGOcc IJ))]⟩,?_,?_⟩,trivial⟩
 ·refine bm [((0,0),(1000,0)),((3,0),(1003,0)),((6,0),(1006,0)),((10,0),(1010,0)),((12,0),(1012,0)),((24,0),(1024,0)),((24,1),(1024,1)),((24,2),(1024,2)),((24,5),(1024,5)),((2139,0),(139,0)),((2139,1),(139,1)),((2139,2),(139,2))] ?_
  cbv
  all_goals exact Zb
 cbv
 refine bcs (fun T=>?_) (fun T=>?_)
 replace hh:=ifT hh T
 try rw[T]
 cbv
 obtain⟨LE,hh⟩:=ae hh
 obtain⟨LF,hh⟩:=ae hh
 refine⟨Nb LE,Mb LF,?_⟩
 try refine⟨rfl,?_⟩
 refine eK hC (bH [14] [206] []) mixed [(2139,2)] ?_
 cbv
 refine⟨Ob,?_⟩
 obtain⟨LG,hh⟩:=ae hh
 refine⟨⟨Ob,Ab⟩,?_⟩
 refine⟨⟨Ob,Wb LG⟩,?_⟩
 ·refine hN1 (_,_,_,_,_) _ hh fun⟨t0,t1,t2,t3,t4⟩ e=>?_
  refine dh hC (0,0) ?_
  cbv
  refine bm [((0,0),(0,0)),((3,0),(3,0)),((6,0),(6,0)),((12,0),(78,0))] ?_
  cbv
  all_goals exact Jz
 replace hh:=ifF hh T
 try rw[T]
 cbv
 obtain⟨LH,hh⟩:=ae hh
 obtain⟨LI,hh⟩:=ae hh
 refine⟨Nb LH,Mb LI,?_⟩
 try refine⟨rfl,?_⟩
 refine eK hC (bH [14] [206] []) mixed [(2139,2)] ?_
 cbv
 refine⟨Ob,?_⟩
 obtain⟨LJ,hh⟩:=ae hh
 refine⟨⟨Ob,Ab⟩,?_⟩
 refine⟨⟨Ob,Wb LJ⟩,?_⟩
 ·refine hN1 (_,_,_,_,_) _ hh fun⟨t0,t1,t2,t3,t4⟩ e=>?_
  refine dh hC (0,0) ?_
  cbv
  refine bm [((0,0),(0,0)),((3,0),(3,0)),((6,0),(6,0)),((12,0),(78,0))] ?_
  cbv
  all_goals exact Jz
 replace hh:=ifF hh S
 try rw[S]
 cbv
 refine bcs (fun U=>?_) (fun U=>?_)
 replace hh:=ifT hh U
 try rw[U]
 cbv
 refine v8 hC (bH [14] [206] []) mixed [] ?_
 cbv
 obtain⟨LK,hh⟩:=ae hh
 obtain⟨Jn,hh⟩:=ae hh
 try dsimp only at Jn
 refine⟨Nb LK,Mb Jn,?_⟩
 obtain⟨LL,LM,hh⟩:=ag hh
 refine⟨[iA LL],Gb LM,?_⟩
 cbv
 obtain⟨LN,hh⟩:=ae hh
 obtain⟨LO,hh⟩:=ae hh
 refine⟨Nb LN,Mb LO,?_⟩
 obtain⟨LP,LQ,hh⟩:=ag hh
 refine⟨[tA (qGOcc LP)],Gb LQ,?_⟩
 cbv
 obtain⟨⟨⟨IR,IT,IU,Is,⟨It,Iv⟩,⟨Iw,Ix⟩,Iy,IW⟩,IL⟩,LR,hh⟩:=ag hh
 try dsimp only at hh
 have fc:=Ah hQ LR
 try dsimp only at fc
 refine ak hF fc ?_
 cbv
 refine⟨⟨⟨[(1,iA p1),(2,iA p2),(3,mA (3,0)),(6,mA (6,0)),(8,rA (12,0) (len (qLGOcc y))),(9,iA z),(10,mA (10,0)),(53,.tup [.agg [iA IR,iA IT,iA IU,rA (2154,0) (len (qInt Is)),rA (2154,1) (len (qGOcc It)),rA (2154,2) (len (qGOcc Iv)),rA (2154,3) (len (qGOcc Iw)),rA (2154,4) (len (qGOcc Ix)),rA (2154,5) (len (qGOcc Iy)),iA IW],rA (2154,10) (len (qGOcc IL))]),(1000000,.agg [iA p0a,rA (0,0) (len (qGNodeS s)),iA p0c,iA p0d,bA B])],[((0,0),.opn 1 10 (qGNodeS s) (nadd 0 (toNat z)) [iA d,iA j,iA o,hA,hA,hA,hA,hA,hA,iA p]),((3,0),.box 1 [iA p0a,rA (0,0) (len (qGNodeS s)),iA p0c,iA p0d,bA A]),((6,0),.box 1 [iA 0,zA,iA 0,iA 0,bA false]),((10,0),.box 1 [iA d,iA j,iA o,hA,hA,hA,hA,hA,hA,iA p]),((12,0),.arr 1 1 (qLGOcc y)),((2154,0),.arr 1 1 (qInt Is)),((2154,1),.arr 1 3 (qGOcc It)),((2154,2),.arr 1 3 (qGOcc Iv)),((2154,3),.arr 1 3 (qGOcc Iw)),((2154,4),.arr 1 3 (qGOcc Ix)),((2154,5),.arr 1 3 (qGOcc Iy)),((2154,10),.arr 1 3 (qGOcc IL))]⟩,?_,?_⟩,trivial⟩
 ·refine bm [((0,0),(1000,0)),((3,0),(1003,0)),((6,0),(1006,0)),((10,0),(1010,0)),((12,0),(1012,0)),((2154,0),(154,0)),((2154,1),(154,1)),((2154,2),(154,2)),((2154,3),(154,3)),((2154,4),(154,4)),((2154,5),(154,5)),((2154,10),(154,10))] ?_
  cbv
  all_goals exact Zb
 cbv
 refine bcs (fun V=>?_) (fun V=>?_)
 replace hh:=ifT hh V
 try rw[V]
 cbv
 obtain⟨LS,hh⟩:=ae hh
 obtain⟨LT,hh⟩:=ae hh
 refine⟨Nb LS,Mb LT,?_⟩
 try refine⟨rfl,?_⟩
 refine eK hC (bH [14] [206] []) mixed [(2154,10)] ?_
 cbv
 refine⟨Ob,?_⟩
 obtain⟨LU,hh⟩:=ae hh
 refine⟨⟨Ob,Ab⟩,?_⟩
 refine⟨⟨Ob,Wb LU⟩,?_⟩
 ·refine hN1 (_,_,_,_,_) _ hh fun⟨t0,t1,t2,t3,t4⟩ e=>?_
  refine dh hC (0,0) ?_
  cbv
  refine bm [((0,0),(0,0)),((3,0),(3,0)),((6,0),(6,0)),((12,0),(78,0))] ?_
  cbv
  all_goals exact Jz
 replace hh:=ifF hh V
 try rw[V]
 cbv
 obtain⟨LV,hh⟩:=ae hh
 obtain⟨LX,hh⟩:=ae hh
 refine⟨Nb LV,Mb LX,?_⟩
 try refine⟨rfl,?_⟩
 refine eK hC (bH [14] [206] []) mixed [(2154,10)] ?_
 cbv
 refine⟨Ob,?_⟩
 obtain⟨LY,hh⟩:=ae hh
 refine⟨⟨Ob,Ab⟩,?_⟩
 refine⟨⟨Ob,Wb LY⟩,?_⟩
 ·refine hN1 (_,_,_,_,_) _ hh fun⟨t0,t1,t2,t3,t4⟩ e=>?_
  refine dh hC (0,0) ?_
  cbv
  refine bm [((0,0),(0,0)),((3,0),(3,0)),((6,0),(6,0)),((12,0),(78,0))] ?_
  cbv
  all_goals exact Jz
 replace hh:=ifF hh U
 try rw[U]
 cbv
 refine⟨⟨⟨[(1,iA p1),(2,iA p2),(3,mA (3,0)),(6,mA (6,0)),(8,rA (12,0) (len (qLGOcc y))),(9,iA z),(10,mA (10,0)),(53,.tup [.agg [iA d,iA j,iA o,rA (24,0) (len (qInt b)),rA (24,1) (len (qGOcc t)),rA (24,2) (len (qGOcc u)),rA (24,3) (len (qGOcc v)),rA (24,4) (len (qGOcc w)),rA (24,5) (len (qGOcc c)),iA p],rA (2011,0) 0]),(1000000,.agg [iA p0a,rA (0,0) (len (qGNodeS s)),iA p0c,iA p0d,bA B])],[((0,0),.opn 1 10 (qGNodeS s) (nadd 0 (toNat z)) [iA d,iA j,iA o,rA (24,0) (len (qInt b)),rA (24,1) (len (qGOcc t)),rA (24,2) (len (qGOcc u)),rA (24,3) (len (qGOcc v)),rA (24,4) (len (qGOcc w)),rA (24,5) (len (qGOcc c)),iA p]),((3,0),.box 1 [iA p0a,rA (0,0) (len (qGNodeS s)),iA p0c,iA p0d,bA A]),((6,0),.box 1 [iA 0,zA,iA 0,iA 0,bA false]),((10,0),.box 1 [iA d,iA j,iA o,rA (24,0) (len (qInt b)),rA (24,1) (len (qGOcc t)),rA (24,2) (len (qGOcc u)),rA (24,3) (len (qGOcc v)),rA (24,4) (len (qGOcc w)),rA (24,5) (len (qGOcc c)),iA p]),((12,0),.arr 1 1 (qLGOcc y)),((24,0),.arr 1 1 (qInt b)),((24,1),.arr 1 3 (qGOcc t)),((24,2),.arr 1 3 (qGOcc u)),((24,3),.arr 1 3 (qGOcc v)),((24,4),.arr 1 3 (qGOcc w)),((24,5),.arr 1 3 (qGOcc c)),((2011,0),.farr 1 3 (qGOcc ([]:List GOcc)))]⟩,?_,?_⟩,trivial⟩
 ·refine bm [((0,0),(1000,0)),((3,0),(1003,0)),((6,0),(1006,0)),((10,0),(1010,0)),((12,0),(1012,0)),((24,0),(1024,0)),((24,1),(1024,1)),((24,2),(1024,2)),((24,3),(1024,3)),((24,4),(1024,4)),((24,5),(1024,5)),((2011,0),(11,0))] ?_
  cbv
  all_goals exact Zb
 cbv
 refine bcs (fun W=>?_) (fun W=>?_)
 replace hh:=ifT hh W
 try rw[W]
 cbv
 obtain⟨LZ,hh⟩:=ae hh
 obtain⟨L4,hh⟩:=ae hh
 refine⟨Nb LZ,Mb L4,?_⟩
 try refine⟨rfl,?_⟩
 refine eK hC (bH [14] [206] []) mixed [] ?_
 cbv
 refine⟨Ob,?_⟩
 obtain⟨L5,hh⟩:=ae hh
 refine⟨⟨Ob,Ab⟩,?_⟩
 refine⟨⟨Ob,Wb L5⟩,?_⟩
 ·refine hN1 (_,_,_,_,_) _ hh fun⟨t0,t1,t2,t3,t4⟩ e=>?_
  refine dh hC (0,0) ?_
  cbv
  refine bm [((0,0),(0,0)),((3,0),(3,0)),((6,0),(6,0)),((12,0),(78,0))] ?_
  cbv
  all_goals exact Jz
 replace hh:=ifF hh W
 try rw[W]
 cbv
 obtain⟨L6,hh⟩:=ae hh
 obtain⟨L7,hh⟩:=ae hh
 refine⟨Nb L6,Mb L7,?_⟩
 try refine⟨rfl,?_⟩
 refine eK hC (bH [14] [206] []) mixed [] ?_
 cbv
 refine⟨Ob,?_⟩
 obtain⟨L8,hh⟩:=ae hh
 refine⟨⟨Ob,Ab⟩,?_⟩
 refine⟨⟨Ob,Wb L8⟩,?_⟩
 ·refine hN1 (_,_,_,_,_) _ hh fun⟨t0,t1,t2,t3,t4⟩ e=>?_
  refine dh hC (0,0) ?_
  cbv
  refine bm [((0,0),(0,0)),((3,0),(3,0)),((6,0),(6,0)),((12,0),(78,0))] ?_
  cbv
  all_goals exact Jz
 replace hh:=ifF hh F
 try rw[F]
 cbv
 exact hD1 (_,_,_,_) _ hh fun⟨t0,t1,t2,t3⟩ e=>kA

end Go.Proofs.YtlbnmldopjadoaaGreat
