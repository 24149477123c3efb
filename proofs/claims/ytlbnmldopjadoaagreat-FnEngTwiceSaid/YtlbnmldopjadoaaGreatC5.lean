/- The functions of this program do what the plain ones do. -/
import Derived.Test.YtlbnmldopjadoaaGreatC4
namespace Go.Proofs.YtlbnmldopjadoaaGreat
open Go Go.Vm
set_option linter.unusedVariables false
set_option maxHeartbeats 4000000
set_option maxRecDepth 4000
variable {qIu8:Vm.RW Int} {qGEx:Vm.RW GEx} {qGRule:Vm.RW GRule} {qStr:Vm.RW ByteArray} {qInt:Vm.RW Int} {qGExO:Vm.RW GEx} {qGOcc:Vm.RW GOcc} {qGNode:Vm.RW GNode} {qGNodeS:Vm.RW GNode} {qGGraphS2:Vm.RW GGraph} {qGGraph:Vm.RW GGraph} {qGEv:Vm.RW GEv} {qGFire:Vm.RW GFire} {qGOccO:Vm.RW GOcc} {qLGOcc:Vm.RW (List GOcc)} {qBool:Vm.RW Bool} {qGGraphS:Vm.RW GGraph} {qLInt:Vm.RW (List Int)} (hQ:EQ qIu8 qGEx qGRule qStr qInt qGExO qGOcc qGNode qGNodeS qGGraphS2 qGGraph qGEv qGFire qGOccO qLGOcc qBool qGGraphS qLInt)
include hQ
theorem rN {k:Nat} {p0:GGraph} {p1:Int} {p2:Int} {r:GGraph×(List GOcc)} (hh:aL.f k p0 p1 p2=some r):ah P 160 [.agg [iA p0.Mode,oA 10 (qGNodeS p0.Nodes),iA p0.Seen,iA p0.Now,bA p0.Full],iA p1,iA p2] [hA,hA,hA] (.tup [.agg [iA r.1.Mode,oA 10 (qGNodeS r.1.Nodes),iA r.1.Seen,iA r.1.Now,bA r.1.Full],tA (qGOcc r.2)]):=by
 obtain⟨p0a,p0b,p0c,p0d,p0e⟩:=p0
 unfold aL.f at hh
 refine gq [14] [206] [] [(6,some 91),(7,none)] [.own,.val] [.skip,.skip,.skip] Tryz.func160 ?_
 unhygienic intros
 cbv
 obtain⟨o1,Mc,hq1⟩:=ag hh
 refine lgq [14] [206] [] hC (U5 (aL.l0 k (⟨p0a,p0b,p0c,p0d,p0e⟩:GGraph) p1 p2))
  (fun⟨s,A,y,z,B⟩=>⟨[(1,iA p1),(2,iA p2),(3,mA (3,0)),(6,mA (6,0)),(8,rA (12,0) (len (qLGOcc y))),(9,iA z),(1000000,.agg [iA p0a,rA (0,0) (len (qGNodeS s)),iA p0c,iA p0d,bA B])],[((0,0),.arr 1 10 (qGNodeS s)),((3,0),.box 1 [iA p0a,rA (0,0) (len (qGNodeS s)),iA p0c,iA p0d,bA A]),((6,0),.box 1 [iA 0,zA,iA 0,iA 0,bA false]),((12,0),.arr 1 1 (qLGOcc y))]⟩)
  (fun⟨IC,IZ,IS,I3⟩=>⟨[(3,mA (3,0)),(6,mA (6,0)),(8,rA (12,0) (len (qLGOcc IS))),(1000000,.agg [iA p0a,rA (0,0) (len (qGNodeS IC)),iA p0c,iA p0d,bA I3])],[((0,0),.arr 1 10 (qGNodeS IC)),((3,0),.box 1 [iA p0a,rA (0,0) (len (qGNodeS IC)),iA p0c,iA p0d,bA IZ]),((6,0),.box 1 [iA 0,zA,iA 0,iA 0,bA false]),((12,0),.arr 1 1 (qLGOcc IS))]⟩) (fun x=>x) (.exit 0)
  (i0:=(_,_,_,_,_)) Mc (fun⟨t0,t1,t2,t3,t4⟩ e=>kA) ?_ ?_
 rintro⟨IC,IZ,IS,I3⟩ hx
 subst o1
 have hh:=hq1
 cbv
 obtain⟨Me,hh⟩:=ae hh
 exact D
 rintro n ⟨s,A,y,z,B⟩ N1 D1 hh hN1 hD1 hQ1
 dsimp only[U5] at hh
 unfold aL.l0 at hh
 cbv
 refine bcs (fun F=>?_) (fun F=>?_)
 replace hh:=ifT hh F
 try rw[F]
 cbv
 obtain⟨Jq,hh⟩:=ae hh
 obtain⟨Jr,hh⟩:=ae hh
 refine⟨Nb Jq,Mb Jr,?_⟩
 obtain⟨⟨d,j,o,b,⟨t,u⟩,⟨v,w⟩,c,p⟩,Js,hh⟩:=ag hh
 try dsimp only at hh
 refine⟨_,Gk (mb qInt qGOcc) Js,?_⟩
 cbv
 refine bcs (fun C=>?_) (fun C=>?_)
 replace hh:=ifT hh C
 try rw[C]
 cbv
 refine bcs (fun G=>?_) (fun G=>?_)
 replace hh:=ifT hh G
 try rw[G]
 cbv
 refine⟨Ob,?_⟩
 obtain⟨Jt,hh⟩:=ae hh
 refine⟨⟨Ob,Ab⟩,?_⟩
 refine⟨⟨Ob,Wb Jt⟩,?_⟩
 refine bcs (fun H=>?_) (fun H=>?_)
 replace hh:=ifT hh H
 try rw[H]
 cbv
 obtain⟨Ju,hh⟩:=ae hh
 obtain⟨Jv,hh⟩:=ae hh
 refine⟨Nb Ju,Mb Jv,?_⟩
 try refine⟨rfl,?_⟩
 refine eJ hC (bH [14] [206] []) mixed [(43,0)] ?_
 cbv
 refine⟨Ob,?_⟩
 obtain⟨Jw,hh⟩:=ae hh
 refine⟨⟨Ob,Ab⟩,?_⟩
 refine⟨⟨Ob,Wb Jw⟩,?_⟩
 ·refine hN1 (_,_,_,_,_) _ hh fun⟨t0,t1,t2,t3,t4⟩ e=>?_
  refine dg hC (0,0) ?_
  cbv
  refine bk [((0,0),(0,0)),((3,0),(3,0)),((6,0),(6,0)),((12,0),(78,0))] ?_
  cbv
  all_goals exact Jz
 replace hh:=ifF hh H
 try rw[H]
 cbv
 obtain⟨Jx,hh⟩:=ae hh
 obtain⟨Jy,hh⟩:=ae hh
 refine⟨Nb Jx,Mb Jy,?_⟩
 try refine⟨rfl,?_⟩
 refine eJ hC (bH [14] [206] []) mixed [(43,0)] ?_
 cbv
 refine⟨Ob,?_⟩
 obtain⟨JA,hh⟩:=ae hh
 refine⟨⟨Ob,Ab⟩,?_⟩
 refine⟨⟨Ob,Wb JA⟩,?_⟩
 ·refine hN1 (_,_,_,_,_) _ hh fun⟨t0,t1,t2,t3,t4⟩ e=>?_
  refine dg hC (0,0) ?_
  cbv
  refine bk [((0,0),(0,0)),((3,0),(3,0)),((6,0),(6,0)),((12,0),(78,0))] ?_
  cbv
  all_goals exact Jz
 replace hh:=ifF hh G
 try rw[G]
 cbv
 first|rw[C]|(have g:=C;cbv at g;rw[g])
 cbv
 refine bcs (fun I=>?_) (fun I=>?_)
 replace hh:=ifT hh I
 try rw[I]
 cbv
 obtain⟨JB,hh⟩:=ae hh
 obtain⟨JC,hh⟩:=ae hh
 refine⟨Nb JB,Mb JC,?_⟩
 try refine⟨rfl,?_⟩
 refine eJ hC (bH [14] [206] []) mixed [(25,0)] ?_
 cbv
 refine⟨Ob,?_⟩
 obtain⟨JD,hh⟩:=ae hh
 refine⟨⟨Ob,Ab⟩,?_⟩
 refine⟨⟨Ob,Wb JD⟩,?_⟩
 ·refine hN1 (_,_,_,_,_) _ hh fun⟨t0,t1,t2,t3,t4⟩ e=>?_
  refine dg hC (0,0) ?_
  cbv
  refine bk [((0,0),(0,0)),((3,0),(3,0)),((6,0),(6,0)),((12,0),(78,0))] ?_
  cbv
  all_goals exact Jz
 replace hh:=ifF hh I
 try rw[I]
 cbv
 obtain⟨JE,hh⟩:=ae hh
 obtain⟨JF,hh⟩:=ae hh
 refine⟨Nb JE,Mb JF,?_⟩
 try refine⟨rfl,?_⟩
 refine eJ hC (bH [14] [206] []) mixed [(25,0)] ?_
 cbv
 refine⟨Ob,?_⟩
 obtain⟨JG,hh⟩:=ae hh
 refine⟨⟨Ob,Ab⟩,?_⟩
 refine⟨⟨Ob,Wb JG⟩,?_⟩
 ·refine hN1 (_,_,_,_,_) _ hh fun⟨t0,t1,t2,t3,t4⟩ e=>?_
  refine dg hC (0,0) ?_
  cbv
  refine bk [((0,0),(0,0)),((3,0),(3,0)),((6,0),(6,0)),((12,0),(78,0))] ?_
  cbv
  all_goals exact Jz
 replace hh:=ifF hh C
 try rw[C]
 cbv
 first|rw[C]|(have g:=C;cbv at g;rw[g])
 cbv
 refine AP hC (bH [14] [206] []) mixed (ts:=[(8,some 175),(9,none)]) ⟨[(0,iA p0a),(1,.agg [iA d,iA j,iA o,rA (1024,0) (len (qInt b)),rA (1024,1) (len (qGOcc t)),rA (1024,2) (len (qGOcc u)),rA (1024,3) (len (qGOcc v)),rA (1024,4) (len (qGOcc w)),rA (1024,5) (len (qGOcc c)),iA p]),(2,iA p1),(3,rA (1012,0) (len (qLGOcc y))),(2000001,iA p1),(2000002,iA p2),(2000003,mA (1003,0)),(2000006,mA (1006,0)),(2000008,rA (1012,0) (len (qLGOcc y))),(2000009,iA z),(2000010,mA (1010,0)),(3000000,.agg [iA p0a,rA (1000,0) (len (qGNodeS s)),iA p0c,iA p0d,bA B])],[((1000,0),.opn 1 10 (qGNodeS s) (nadd 0 (toNat z)) [iA d,iA j,iA o,rA (1024,0) (len (qInt b)),rA (1024,1) (len (qGOcc t)),rA (1024,2) (len (qGOcc u)),rA (1024,3) (len (qGOcc v)),rA (1024,4) (len (qGOcc w)),rA (1024,5) (len (qGOcc c)),iA p]),((1003,0),.box 1 [iA p0a,rA (1000,0) (len (qGNodeS s)),iA p0c,iA p0d,bA A]),((1006,0),.box 1 [iA 0,zA,iA 0,iA 0,bA false]),((1010,0),.box 1 [iA d,iA j,iA o,rA (1024,0) (len (qInt b)),rA (1024,1) (len (qGOcc t)),rA (1024,2) (len (qGOcc u)),rA (1024,3) (len (qGOcc v)),rA (1024,4) (len (qGOcc w)),rA (1024,5) (len (qGOcc c)),iA p]),((1012,0),.arr 1 1 (qLGOcc y)),((1024,0),.arr 1 1 (qInt b)),((1024,1),.arr 1 3 (qGOcc t)),((1024,2),.arr 1 3 (qGOcc u)),((1024,3),.arr 1 3 (qGOcc v)),((1024,4),.arr 1 3 (qGOcc w)),((1024,5),.arr 1 3 (qGOcc c))]⟩ Tryz.func206 (by kernel_rfl) (by kernel_rfl) ?_ ?_
 ·refine bk [((1000,0),(0,0)),((1003,0),(3,0)),((1006,0),(6,0)),((1010,0),(10,0)),((1012,0),(12,0)),((1024,0),(24,0)),((1024,1),(24,1)),((1024,2),(24,2)),((1024,3),(24,3)),((1024,4),(24,4)),((1024,5),(24,5))] ?_
  cbv
  all_goals exact Zb
 cbv
 refine bcs (fun J=>?_) (fun J=>?_)
 replace hh:=ifT hh J
 try rw[J]
 cbv
 obtain⟨JH,hh⟩:=ae hh
 obtain⟨I5,hh⟩:=ae hh
 try dsimp only at I5
 refine⟨Nb JH,Mb I5,?_⟩
 obtain⟨JI,JJ,hh⟩:=ag hh
 refine⟨[iA JI],Gb JJ,?_⟩
 cbv
 obtain⟨JK,hh⟩:=ae hh
 obtain⟨JL,hh⟩:=ae hh
 refine⟨Nb JK,Mb JL,?_⟩
 obtain⟨JM,JN,hh⟩:=ag hh
 refine⟨[tA (qGOcc JM)],Gb JN,?_⟩
 cbv
 obtain⟨JO,JP,hh⟩:=ag hh
 refine ak hF (ah.frzIn (r':=oA 3 (qGOcc JO)) (kQ hQ JP) (by cases hQ;simp)) ?_
 cbv
 obtain⟨JQ,hh⟩:=ae hh
 obtain⟨I8,hh⟩:=ae hh
 try dsimp only at I8
 refine⟨Nb JQ,Mb I8,?_⟩
 obtain⟨JR,JS,hh⟩:=ag hh
 refine⟨[iA JR],Gb JS,?_⟩
 cbv
 obtain⟨JT,hh⟩:=ae hh
 obtain⟨JU,hh⟩:=ae hh
 refine⟨Nb JT,Mb JU,?_⟩
 obtain⟨JV,JW,hh⟩:=ag hh
 refine⟨[tA (qGOcc JV)],Gb JW,?_⟩
 cbv
 obtain⟨Jd,JX,hh⟩:=ag hh
 refine ak hF (ah.frz (r':=tA (qGOcc Jd)) (er hQ JX) (by cases hQ;simp)) ?_
 cbv
 refine⟨⟨⟨[(1,iA p1),(2,iA p2),(3,mA (3,0)),(6,mA (6,0)),(8,rA (12,0) (len (qLGOcc y))),(9,iA z),(10,mA (10,0)),(53,.tup [.agg [iA d,iA j,iA o,rA (24,0) (len (qInt b)),rA (24,1) (len (qGOcc t)),rA (24,2) (len (qGOcc u)),rA (24,3) (len (qGOcc v)),rA (24,4) (len (qGOcc w)),rA (24,5) (len (qGOcc c)),iA p],tA (qGOcc Jd)]),(1000000,.agg [iA p0a,rA (0,0) (len (qGNodeS s)),iA p0c,iA p0d,bA B])],[((0,0),.opn 1 10 (qGNodeS s) (nadd 0 (toNat z)) [iA d,iA j,iA o,rA (24,0) (len (qInt b)),rA (24,1) (len (qGOcc t)),rA (24,2) (len (qGOcc u)),rA (24,3) (len (qGOcc v)),rA (24,4) (len (qGOcc w)),rA (24,5) (len (qGOcc c)),iA p]),((3,0),.box 1 [iA p0a,rA (0,0) (len (qGNodeS s)),iA p0c,iA p0d,bA A]),((6,0),.box 1 [iA 0,zA,iA 0,iA 0,bA false]),((10,0),.box 1 [iA d,iA j,iA o,rA (24,0) (len (qInt b)),rA (24,1) (len (qGOcc t)),rA (24,2) (len (qGOcc u)),rA (24,3) (len (qGOcc v)),rA (24,4) (len (qGOcc w)),rA (24,5) (len (qGOcc c)),iA p]),((12,0),.arr 1 1 (qLGOcc y)),((24,0),.arr 1 1 (qInt b)),((24,1),.arr 1 3 (qGOcc t)),((24,2),.arr 1 3 (qGOcc u)),((24,3),.arr 1 3 (qGOcc v)),((24,4),.arr 1 3 (qGOcc w)),((24,5),.arr 1 3 (qGOcc c))]⟩,?_,?_⟩,trivial⟩
 ·refine bk [((0,0),(1000,0)),((3,0),(1003,0)),((6,0),(1006,0)),((10,0),(1010,0)),((12,0),(1012,0)),((24,0),(1024,0)),((24,1),(1024,1)),((24,2),(1024,2)),((24,3),(1024,3)),((24,4),(1024,4)),((24,5),(1024,5))] ?_
  cbv
  all_goals exact Zb
 cbv
 refine bcs (fun K=>?_) (fun K=>?_)
 replace hh:=ifT hh K
 try rw[K]
 cbv
 obtain⟨JY,hh⟩:=ae hh
 obtain⟨JZ,hh⟩:=ae hh
 refine⟨Nb JY,Mb JZ,?_⟩
 try refine⟨rfl,?_⟩
 refine eJ hC (bH [14] [206] []) mixed [] ?_
 cbv
 obtain⟨J0,hh⟩:=ae hh
 refine⟨⟨Ob,Ab⟩,?_⟩
 refine⟨⟨Ob,Wb J0⟩,?_⟩
 ·refine hN1 (_,_,_,_,_) _ hh fun⟨t0,t1,t2,t3,t4⟩ e=>?_
  refine dg hC (0,0) ?_
  cbv
  refine bk [((0,0),(0,0)),((3,0),(3,0)),((6,0),(6,0)),((12,0),(78,0))] ?_
  cbv
  all_goals exact Jz
 replace hh:=ifF hh K
 try rw[K]
 cbv
 obtain⟨J1,hh⟩:=ae hh
 obtain⟨J2,hh⟩:=ae hh
 refine⟨Nb J1,Mb J2,?_⟩
 try refine⟨rfl,?_⟩
 refine eJ hC (bH [14] [206] []) mixed [] ?_
 cbv
 obtain⟨J3,hh⟩:=ae hh
 refine⟨⟨Ob,Ab⟩,?_⟩
 refine⟨⟨Ob,Wb J3⟩,?_⟩
 ·refine hN1 (_,_,_,_,_) _ hh fun⟨t0,t1,t2,t3,t4⟩ e=>?_
  refine dg hC (0,0) ?_
  cbv
  refine bk [((0,0),(0,0)),((3,0),(3,0)),((6,0),(6,0)),((12,0),(78,0))] ?_
  cbv
  all_goals exact Jz
 replace hh:=ifF hh J
 try rw[J]
 cbv
 refine bcs (fun L=>?_) (fun L=>?_)
 replace hh:=ifT hh L
 try rw[L]
 cbv
 obtain⟨J4,hh⟩:=ae hh
 obtain⟨Je,hh⟩:=ae hh
 try dsimp only at Je
 refine⟨Nb J4,Mb Je,?_⟩
 obtain⟨J5,J6,hh⟩:=ag hh
 refine⟨[iA J5],Gb J6,?_⟩
 cbv
 obtain⟨J7,hh⟩:=ae hh
 obtain⟨J8,hh⟩:=ae hh
 refine⟨Nb J7,Mb J8,?_⟩
 obtain⟨J9,Ka,hh⟩:=ag hh
 refine⟨[tA (qGOcc J9)],Gb Ka,?_⟩
 cbv
 obtain⟨Kb,hh⟩:=ae hh
 obtain⟨Jf,hh⟩:=ae hh
 try dsimp only at Jf
 refine⟨Nb Kb,Mb Jf,?_⟩
 obtain⟨Kc,Kd,hh⟩:=ag hh
 refine⟨[iA Kc],Gb Kd,?_⟩
 cbv
 obtain⟨Ke,hh⟩:=ae hh
 obtain⟨Kf,hh⟩:=ae hh
 refine⟨Nb Ke,Mb Kf,?_⟩
 obtain⟨Kg,Kh,hh⟩:=ag hh
 refine⟨[tA (qGOcc Kg)],Gb Kh,?_⟩
 cbv
 obtain⟨⟨⟨X,Y⟩,IF⟩,Ki,hh⟩:=ag hh
 try dsimp only at hh
 have fc:=AH hQ Ki
 try dsimp only at fc
 refine ak hF fc ?_
 cbv
 refine⟨⟨⟨[(1,iA p1),(2,iA p2),(3,mA (3,0)),(6,mA (6,0)),(8,rA (12,0) (len (qLGOcc y))),(9,iA z),(10,mA (10,0)),(53,.tup [.agg [iA d,iA j,iA o,rA (24,0) (len (qInt b)),rA (2053,0) (len (qGOcc X)),rA (2053,1) (len (qGOcc Y)),rA (24,3) (len (qGOcc v)),rA (24,4) (len (qGOcc w)),rA (24,5) (len (qGOcc c)),iA p],rA (2053,2) (len (qGOcc IF))]),(1000000,.agg [iA p0a,rA (0,0) (len (qGNodeS s)),iA p0c,iA p0d,bA B])],[((0,0),.opn 1 10 (qGNodeS s) (nadd 0 (toNat z)) [iA d,iA j,iA o,rA (24,0) (len (qInt b)),hA,hA,rA (24,3) (len (qGOcc v)),rA (24,4) (len (qGOcc w)),rA (24,5) (len (qGOcc c)),iA p]),((3,0),.box 1 [iA p0a,rA (0,0) (len (qGNodeS s)),iA p0c,iA p0d,bA A]),((6,0),.box 1 [iA 0,zA,iA 0,iA 0,bA false]),((10,0),.box 1 [iA d,iA j,iA o,rA (24,0) (len (qInt b)),hA,hA,rA (24,3) (len (qGOcc v)),rA (24,4) (len (qGOcc w)),rA (24,5) (len (qGOcc c)),iA p]),((12,0),.arr 1 1 (qLGOcc y)),((24,0),.arr 1 1 (qInt b)),((24,3),.arr 1 3 (qGOcc v)),((24,4),.arr 1 3 (qGOcc w)),((24,5),.arr 1 3 (qGOcc c)),((2053,0),.arr 1 3 (qGOcc X)),((2053,1),.arr 1 3 (qGOcc Y)),((2053,2),.arr 1 3 (qGOcc IF))]⟩,?_,?_⟩,trivial⟩
 ·refine bk [((0,0),(1000,0)),((3,0),(1003,0)),((6,0),(1006,0)),((10,0),(1010,0)),((12,0),(1012,0)),((24,0),(1024,0)),((24,3),(1024,3)),((24,4),(1024,4)),((24,5),(1024,5)),((2053,0),(53,0)),((2053,1),(53,1)),((2053,2),(53,2))] ?_
  cbv
  all_goals exact Zb
 cbv
 refine bcs (fun M=>?_) (fun M=>?_)
 replace hh:=ifT hh M
 try rw[M]
 cbv
 obtain⟨Kj,hh⟩:=ae hh
 obtain⟨Kk,hh⟩:=ae hh
 refine⟨Nb Kj,Mb Kk,?_⟩
 try refine⟨rfl,?_⟩
 refine eJ hC (bH [14] [206] []) mixed [(2053,2)] ?_
 cbv
 refine⟨Ob,?_⟩
 obtain⟨Kl,hh⟩:=ae hh
 refine⟨⟨Ob,Ab⟩,?_⟩
 refine⟨⟨Ob,Wb Kl⟩,?_⟩
 ·refine hN1 (_,_,_,_,_) _ hh fun⟨t0,t1,t2,t3,t4⟩ e=>?_
  refine dg hC (0,0) ?_
  cbv
  refine bk [((0,0),(0,0)),((3,0),(3,0)),((6,0),(6,0)),((12,0),(78,0))] ?_
  cbv
  all_goals exact Jz
 replace hh:=ifF hh M
 try rw[M]
 cbv
 obtain⟨Km,hh⟩:=ae hh
 obtain⟨Ko,hh⟩:=ae hh
 refine⟨Nb Km,Mb Ko,?_⟩
 try refine⟨rfl,?_⟩
 refine eJ hC (bH [14] [206] []) mixed [(2053,2)] ?_
 cbv
 refine⟨Ob,?_⟩
 obtain⟨Kp,hh⟩:=ae hh
 refine⟨⟨Ob,Ab⟩,?_⟩
 refine⟨⟨Ob,Wb Kp⟩,?_⟩
 ·refine hN1 (_,_,_,_,_) _ hh fun⟨t0,t1,t2,t3,t4⟩ e=>?_
  refine dg hC (0,0) ?_
  cbv
  refine bk [((0,0),(0,0)),((3,0),(3,0)),((6,0),(6,0)),((12,0),(78,0))] ?_
  cbv
  all_goals exact Jz
 replace hh:=ifF hh L
 try rw[L]
 cbv
 refine bcs (fun N=>?_) (fun N=>?_)
 replace hh:=ifT hh N
 try rw[N]
 cbv
 obtain⟨Kq,hh⟩:=ae hh
 obtain⟨Jg,hh⟩:=ae hh
 try dsimp only at Jg
 refine⟨Nb Kq,Mb Jg,?_⟩
 obtain⟨Kr,Ks,hh⟩:=ag hh
 refine⟨[iA Kr],Gb Ks,?_⟩
 cbv
 obtain⟨Kt,hh⟩:=ae hh
 obtain⟨Ku,hh⟩:=ae hh
 refine⟨Nb Kt,Mb Ku,?_⟩
 obtain⟨Kv,Kw,hh⟩:=ag hh
 refine⟨[tA (qGOcc Kv)],Gb Kw,?_⟩
 cbv
 obtain⟨Kx,hh⟩:=ae hh
 obtain⟨Jh,hh⟩:=ae hh
 try dsimp only at Jh
 refine⟨Nb Kx,Mb Jh,?_⟩
 obtain⟨Ky,Kz,hh⟩:=ag hh
 refine⟨[iA Ky],Gb Kz,?_⟩
 cbv
 obtain⟨KA,hh⟩:=ae hh
 obtain⟨KC,hh⟩:=ae hh
 refine⟨Nb KA,Mb KC,?_⟩
 obtain⟨KD,KE,hh⟩:=ag hh
 refine⟨[tA (qGOcc KD)],Gb KE,?_⟩
 cbv
 obtain⟨⟨⟨Z,eR⟩,IJ⟩,KG,hh⟩:=ag hh
 try dsimp only at hh
 have fc:=Cj hQ KG
 try dsimp only at fc
 refine ak hF fc ?_
 cbv
 refine⟨⟨⟨[(1,iA p1),(2,iA p2),(3,mA (3,0)),(6,mA (6,0)),(8,rA (12,0) (len (qLGOcc y))),(9,iA z),(10,mA (10,0)),(53,.tup [.agg [iA d,iA j,iA o,rA (24,0) (len (qInt b)),rA (2077,0) (len (qGOcc Z)),rA (2077,1) (len (qGOcc eR)),rA (24,3) (len (qGOcc v)),rA (24,4) (len (qGOcc w)),rA (24,5) (len (qGOcc c)),iA p],rA (2077,2) (len (qGOcc IJ))]),(1000000,.agg [iA p0a,rA (0,0) (len (qGNodeS s)),iA p0c,iA p0d,bA B])],[((0,0),.opn 1 10 (qGNodeS s) (nadd 0 (toNat z)) [iA d,iA j,iA o,rA (24,0) (len (qInt b)),hA,hA,rA (24,3) (len (qGOcc v)),rA (24,4) (len (qGOcc w)),rA (24,5) (len (qGOcc c)),iA p]),((3,0),.box 1 [iA p0a,rA (0,0) (len (qGNodeS s)),iA p0c,iA p0d,bA A]),((6,0),.box 1 [iA 0,zA,iA 0,iA 0,bA false]),((10,0),.box 1 [iA d,iA j,iA o,rA (24,0) (len (qInt b)),hA,hA,rA (24,3) (len (qGOcc v)),rA (24,4) (len (qGOcc w)),rA (24,5) (len (qGOcc c)),iA p]),((12,0),.arr 1 1 (qLGOcc y)),((24,0),.arr 1 1 (qInt b)),((24,3),.arr 1 3 (qGOcc v)),((24,4),.arr 1 3 (qGOcc w)),((24,5),.arr 1 3 (qGOcc c)),((2077,0),.arr 1 3 (qGOcc Z)),((2077,1),.arr 1 3 (qGOcc eR)),((2077,2),.arr 1 3 (qGOcc IJ))]⟩,?_,?_⟩,trivial⟩
 ·refine bk [((0,0),(1000,0)),((3,0),(1003,0)),((6,0),(1006,0)),((10,0),(1010,0)),((12,0),(1012,0)),((24,0),(1024,0)),((24,3),(1024,3)),((24,4),(1024,4)),((24,5),(1024,5)),((2077,0),(77,0)),((2077,1),(77,1)),((2077,2),(77,2))] ?_
  cbv
  all_goals exact Zb
 cbv
 refine bcs (fun O=>?_) (fun O=>?_)
 replace hh:=ifT hh O
 try rw[O]
 cbv
 obtain⟨KH,hh⟩:=ae hh
 obtain⟨KJ,hh⟩:=ae hh
 refine⟨Nb KH,Mb KJ,?_⟩
 try refine⟨rfl,?_⟩
 refine eJ hC (bH [14] [206] []) mixed [(2077,2)] ?_
 cbv
 refine⟨Ob,?_⟩
 obtain⟨KK,hh⟩:=ae hh
 refine⟨⟨Ob,Ab⟩,?_⟩
 refine⟨⟨Ob,Wb KK⟩,?_⟩
 ·refine hN1 (_,_,_,_,_) _ hh fun⟨t0,t1,t2,t3,t4⟩ e=>?_
  refine dg hC (0,0) ?_
  cbv
  refine bk [((0,0),(0,0)),((3,0),(3,0)),((6,0),(6,0)),((12,0),(78,0))] ?_
  cbv
  all_goals exact Jz
 replace hh:=ifF hh O
 try rw[O]
 cbv
 obtain⟨KL,hh⟩:=ae hh
 obtain⟨KM,hh⟩:=ae hh
 refine⟨Nb KL,Mb KM,?_⟩
 try refine⟨rfl,?_⟩
 refine eJ hC (bH [14] [206] []) mixed [(2077,2)] ?_
 cbv
 refine⟨Ob,?_⟩
 obtain⟨KN,hh⟩:=ae hh
 refine⟨⟨Ob,Ab⟩,?_⟩
 refine⟨⟨Ob,Wb KN⟩,?_⟩
 ·refine hN1 (_,_,_,_,_) _ hh fun⟨t0,t1,t2,t3,t4⟩ e=>?_
  refine dg hC (0,0) ?_
  cbv
  refine bk [((0,0),(0,0)),((3,0),(3,0)),((6,0),(6,0)),((12,0),(78,0))] ?_
  cbv
  all_goals exact Jz
 replace hh:=ifF hh N
 try rw[N]
 cbv
 refine bcs (fun Q=>?_) (fun Q=>?_)
 replace hh:=ifT hh Q
 try rw[Q]
 cbv
 obtain⟨KO,hh⟩:=ae hh
 obtain⟨Ji,hh⟩:=ae hh
 try dsimp only at Ji
 refine⟨Nb KO,Mb Ji,?_⟩
 obtain⟨KP,KQ,hh⟩:=ag hh
 refine⟨[iA KP],Gb KQ,?_⟩
 cbv
 obtain⟨KR,hh⟩:=ae hh
 obtain⟨KS,hh⟩:=ae hh
 refine⟨Nb KR,Mb KS,?_⟩
 obtain⟨KT,KU,hh⟩:=ag hh
 refine⟨[tA (qGOcc KT)],Gb KU,?_⟩
 cbv
 obtain⟨KV,hh⟩:=ae hh
 obtain⟨Jj,hh⟩:=ae hh
 try dsimp only at Jj
 refine⟨Nb KV,Mb Jj,?_⟩
 obtain⟨KW,KX,hh⟩:=ag hh
 refine⟨[iA KW],Gb KX,?_⟩
 cbv
 obtain⟨KY,hh⟩:=ae hh
 obtain⟨KZ,hh⟩:=ae hh
 refine⟨Nb KY,Mb KZ,?_⟩
 obtain⟨K3,K4,hh⟩:=ag hh
 refine⟨[tA (qGOcc K3)],Gb K4,?_⟩
 cbv
 obtain⟨K5,hh⟩:=ae hh
 obtain⟨Jk,hh⟩:=ae hh
 try dsimp only at Jk
 refine⟨Nb K5,Mb Jk,?_⟩
 obtain⟨K6,K7,hh⟩:=ag hh
 refine⟨[iA K6],Gb K7,?_⟩
 cbv
 obtain⟨K8,hh⟩:=ae hh
 obtain⟨K9,hh⟩:=ae hh
 refine⟨Nb K8,Mb K9,?_⟩
 obtain⟨La,Lb,hh⟩:=ag hh
 refine⟨[tA (qGOcc La)],Gb Lb,?_⟩
 cbv
 obtain⟨⟨⟨HS,Id⟩,IL⟩,Lc,hh⟩:=ag hh
 try dsimp only at hh
 have fc:=Cg hQ Lc
 try dsimp only at fc
 refine ak hF fc ?_
 cbv
 refine⟨⟨⟨[(1,iA p1),(2,iA p2),(3,mA (3,0)),(6,mA (6,0)),(8,rA (12,0) (len (qLGOcc y))),(9,iA z),(10,mA (10,0)),(53,.tup [.agg [iA d,iA j,iA o,rA (24,0) (len (qInt b)),rA (24,1) (len (qGOcc t)),rA (24,2) (len (qGOcc u)),rA (2108,0) (len (qGOcc HS)),rA (2108,1) (len (qGOcc Id)),rA (24,5) (len (qGOcc c)),iA p],rA (2108,2) (len (qGOcc IL))]),(1000000,.agg [iA p0a,rA (0,0) (len (qGNodeS s)),iA p0c,iA p0d,bA B])],[((0,0),.opn 1 10 (qGNodeS s) (nadd 0 (toNat z)) [iA d,iA j,iA o,rA (24,0) (len (qInt b)),rA (24,1) (len (qGOcc t)),rA (24,2) (len (qGOcc u)),hA,hA,rA (24,5) (len (qGOcc c)),iA p]),((3,0),.box 1 [iA p0a,rA (0,0) (len (qGNodeS s)),iA p0c,iA p0d,bA A]),((6,0),.box 1 [iA 0,zA,iA 0,iA 0,bA false]),((10,0),.box 1 [iA d,iA j,iA o,rA (24,0) (len (qInt b)),rA (24,1) (len (qGOcc t)),rA (24,2) (len (qGOcc u)),hA,hA,rA (24,5) (len (qGOcc c)),iA p]),((12,0),.arr 1 1 (qLGOcc y)),((24,0),.arr 1 1 (qInt b)),((24,1),.arr 1 3 (qGOcc t)),((24,2),.arr 1 3 (qGOcc u)),((24,5),.arr 1 3 (qGOcc c)),((2108,0),.arr 1 3 (qGOcc HS)),((2108,1),.arr 1 3 (qGOcc Id)),((2108,2),.arr 1 3 (qGOcc IL))]⟩,?_,?_⟩,trivial⟩
 ·refine bk [((0,0),(1000,0)),((3,0),(1003,0)),((6,0),(1006,0)),((10,0),(1010,0)),((12,0),(1012,0)),((24,0),(1024,0)),((24,1),(1024,1)),((24,2),(1024,2)),((24,5),(1024,5)),((2108,0),(108,0)),((2108,1),(108,1)),((2108,2),(108,2))] ?_
  cbv
  all_goals exact Zb
 cbv
 refine bcs (fun R=>?_) (fun R=>?_)
 replace hh:=ifT hh R
 try rw[R]
 cbv
 obtain⟨Ld,hh⟩:=ae hh
 obtain⟨Le,hh⟩:=ae hh
 refine⟨Nb Ld,Mb Le,?_⟩
 try refine⟨rfl,?_⟩
 refine eJ hC (bH [14] [206] []) mixed [(2108,2)] ?_
 cbv
 refine⟨Ob,?_⟩
 obtain⟨Lf,hh⟩:=ae hh
 refine⟨⟨Ob,Ab⟩,?_⟩
 refine⟨⟨Ob,Wb Lf⟩,?_⟩
 ·refine hN1 (_,_,_,_,_) _ hh fun⟨t0,t1,t2,t3,t4⟩ e=>?_
  refine dg hC (0,0) ?_
  cbv
  refine bk [((0,0),(0,0)),((3,0),(3,0)),((6,0),(6,0)),((12,0),(78,0))] ?_
  cbv
  all_goals exact Jz
 replace hh:=ifF hh R
 try rw[R]
 cbv
 obtain⟨Lg,hh⟩:=ae hh
 obtain⟨Lh,hh⟩:=ae hh
 refine⟨Nb Lg,Mb Lh,?_⟩
 try refine⟨rfl,?_⟩
 refine eJ hC (bH [14] [206] []) mixed [(2108,2)] ?_
 cbv
 refine⟨Ob,?_⟩
 obtain⟨Li,hh⟩:=ae hh
 refine⟨⟨Ob,Ab⟩,?_⟩
 refine⟨⟨Ob,Wb Li⟩,?_⟩
 ·refine hN1 (_,_,_,_,_) _ hh fun⟨t0,t1,t2,t3,t4⟩ e=>?_
  refine dg hC (0,0) ?_
  cbv
  refine bk [((0,0),(0,0)),((3,0),(3,0)),((6,0),(6,0)),((12,0),(78,0))] ?_
  cbv
  all_goals exact Jz
 replace hh:=ifF hh Q
 try rw[Q]
 cbv
 refine bcs (fun S=>?_) (fun S=>?_)
 replace hh:=ifT hh S
 try rw[S]
 cbv
 obtain⟨Lj,hh⟩:=ae hh
 obtain⟨Jl,hh⟩:=ae hh
 try dsimp only at Jl
 refine⟨Nb Lj,Mb Jl,?_⟩
 obtain⟨Lk,Ll,hh⟩:=ag hh
 refine⟨[iA Lk],Gb Ll,?_⟩
 cbv
 obtain⟨Lm,hh⟩:=ae hh
 obtain⟨Ln,hh⟩:=ae hh
 refine⟨Nb Lm,Mb Ln,?_⟩
 obtain⟨Lo,Lp,hh⟩:=ag hh
 refine⟨[tA (qGOcc Lo)],Gb Lp,?_⟩
 cbv
 obtain⟨Lq,hh⟩:=ae hh
 obtain⟨Jn,hh⟩:=ae hh
 try dsimp only at Jn
 refine⟨Nb Lq,Mb Jn,?_⟩
 obtain⟨Lr,Ls,hh⟩:=ag hh
 refine⟨[iA Lr],Gb Ls,?_⟩
 cbv
 obtain⟨Lt,hh⟩:=ae hh
 obtain⟨Lu,hh⟩:=ae hh
 refine⟨Nb Lt,Mb Lu,?_⟩
 obtain⟨Lw,Lx,hh⟩:=ag hh
 refine⟨[tA (qGOcc Lw)],Gb Lx,?_⟩
 cbv
 obtain⟨Ly,hh⟩:=ae hh
 obtain⟨Jo,hh⟩:=ae hh
 try dsimp only at Jo
 refine⟨Nb Ly,Mb Jo,?_⟩
 obtain⟨Lz,LA,hh⟩:=ag hh
 refine⟨[iA Lz],Gb LA,?_⟩
 cbv
 obtain⟨LB,hh⟩:=ae hh
 obtain⟨LC,hh⟩:=ae hh
 refine⟨Nb LB,Mb LC,?_⟩
 obtain⟨LD,LE,hh⟩:=ag hh
 refine⟨[tA (qGOcc LD)],Gb LE,?_⟩
 cbv
 obtain⟨⟨⟨If,Ir⟩,IM⟩,LF,hh⟩:=ag hh
 try dsimp only at hh
 have fc:=zv hQ LF
 try dsimp only at fc
 refine ak hF fc ?_
 cbv
 refine⟨⟨⟨[(1,iA p1),(2,iA p2),(3,mA (3,0)),(6,mA (6,0)),(8,rA (12,0) (len (qLGOcc y))),(9,iA z),(10,mA (10,0)),(53,.tup [.agg [iA d,iA j,iA o,rA (24,0) (len (qInt b)),rA (24,1) (len (qGOcc t)),rA (24,2) (len (qGOcc u)),rA (2139,0) (len (qGOcc If)),rA (2139,1) (len (qGOcc Ir)),rA (24,5) (len (qGOcc c)),iA p],rA (2139,2) (len (qGOcc IM))]),(1000000,.agg [iA p0a,rA (0,0) (len (qGNodeS s)),iA p0c,iA p0d,bA B])],[((0,0),.opn 1 10 (qGNodeS s) (nadd 0 (toNat z)) [iA d,iA j,iA o,rA (24,0) (len (qInt b)),rA (24,1) (len (qGOcc t)),rA (24,2) (len (qGOcc u)),hA,hA,rA (24,5) (len (qGOcc c)),iA p]),((3,0),.box 1 [iA p0a,rA (0,0) (len (qGNodeS s)),iA p0c,iA p0d,bA A]),((6,0),.box 1 [iA 0,zA,iA 0,iA 0,bA false]),((10,0),.box 1 [iA d,iA j,iA o,rA (24,0) (len (qInt b)),rA (24,1) (len (qGOcc t)),rA (24,2) (len (qGOcc u)),hA,hA,rA (24,5) (len (qGOcc c)),iA p]),((12,0),.arr 1 1 (qLGOcc y)),((24,0),.arr 1 1 (qInt b)),((24,1),.arr 1 3 (qGOcc t)),((24,2),.arr 1 3 (qGOcc u)),((24,5),.arr 1 3 (qGOcc c)),((2139,0),.arr 1 3 (qGOcc If)),((2139,1),.arr 1 3 (qGOcc Ir)),((2139,2),.arr 1 3 (qGOcc IM))]⟩,?_,?_⟩,trivial⟩
 ·refine bk [((0,0),(1000,0)),((3,0),(1003,0)),((6,0),(1006,0)),((10,0),(1010,0)),((12,0),(1012,0)),((24,0),(1024,0)),((24,1),(1024,1)),((24,2),(1024,2)),((24,5),(1024,5)),((2139,0),(139,0)),((2139,1),(139,1)),((2139,2),(139,2))] ?_
  cbv
  all_goals exact Zb
 cbv
 refine bcs (fun T=>?_) (fun T=>?_)
 replace hh:=ifT hh T
 try rw[T]
 cbv
 obtain⟨LG,hh⟩:=ae hh
 obtain⟨LH,hh⟩:=ae hh
 refine⟨Nb LG,Mb LH,?_⟩
 try refine⟨rfl,?_⟩
 refine eJ hC (bH [14] [206] []) mixed [(2139,2)] ?_
 cbv
 refine⟨Ob,?_⟩
 obtain⟨LI,hh⟩:=ae hh
 refine⟨⟨Ob,Ab⟩,?_⟩
 refine⟨⟨Ob,Wb LI⟩,?_⟩
 ·refine hN1 (_,_,_,_,_) _ hh fun⟨t0,t1,t2,t3,t4⟩ e=>?_
  refine dg hC (0,0) ?_
  cbv
  refine bk [((0,0),(0,0)),((3,0),(3,0)),((6,0),(6,0)),((12,0),(78,0))] ?_
  cbv
  all_goals exact Jz
 replace hh:=ifF hh T
 try rw[T]
 cbv
 obtain⟨LJ,hh⟩:=ae hh
 obtain⟨LK,hh⟩:=ae hh
 refine⟨Nb LJ,Mb LK,?_⟩
 try refine⟨rfl,?_⟩
 refine eJ hC (bH [14] [206] []) mixed [(2139,2)] ?_
 cbv
 refine⟨Ob,?_⟩
 obtain⟨LL,hh⟩:=ae hh
 refine⟨⟨Ob,Ab⟩,?_⟩
 refine⟨⟨Ob,Wb LL⟩,?_⟩
 ·refine hN1 (_,_,_,_,_) _ hh fun⟨t0,t1,t2,t3,t4⟩ e=>?_
  refine dg hC (0,0) ?_
  cbv
  refine bk [((0,0),(0,0)),((3,0),(3,0)),((6,0),(6,0)),((12,0),(78,0))] ?_
  cbv
  all_goals exact Jz
 replace hh:=ifF hh S
 try rw[S]
 cbv
 refine bcs (fun U=>?_) (fun U=>?_)
 replace hh:=ifT hh U
 try rw[U]
 cbv
 refine wb hC (bH [14] [206] []) mixed [] ?_
 cbv
 obtain⟨LM,hh⟩:=ae hh
 obtain⟨Jp,hh⟩:=ae hh
 try dsimp only at Jp
 refine⟨Nb LM,Mb Jp,?_⟩
 obtain⟨LN,LO,hh⟩:=ag hh
 refine⟨[iA LN],Gb LO,?_⟩
 cbv
 obtain⟨LP,hh⟩:=ae hh
 obtain⟨LQ,hh⟩:=ae hh
 refine⟨Nb LP,Mb LQ,?_⟩
 obtain⟨LR,LS,hh⟩:=ag hh
 refine⟨[tA (qGOcc LR)],Gb LS,?_⟩
 cbv
 obtain⟨⟨⟨IU,IV,IW,Iv,⟨Iw,Iy⟩,⟨Iz,IA⟩,IB,IY⟩,IP⟩,LT,hh⟩:=ag hh
 try dsimp only at hh
 have fc:=Aj hQ LT
 try dsimp only at fc
 refine ak hF fc ?_
 cbv
 refine⟨⟨⟨[(1,iA p1),(2,iA p2),(3,mA (3,0)),(6,mA (6,0)),(8,rA (12,0) (len (qLGOcc y))),(9,iA z),(10,mA (10,0)),(53,.tup [.agg [iA IU,iA IV,iA IW,rA (2154,0) (len (qInt Iv)),rA (2154,1) (len (qGOcc Iw)),rA (2154,2) (len (qGOcc Iy)),rA (2154,3) (len (qGOcc Iz)),rA (2154,4) (len (qGOcc IA)),rA (2154,5) (len (qGOcc IB)),iA IY],rA (2154,10) (len (qGOcc IP))]),(1000000,.agg [iA p0a,rA (0,0) (len (qGNodeS s)),iA p0c,iA p0d,bA B])],[((0,0),.opn 1 10 (qGNodeS s) (nadd 0 (toNat z)) [iA d,iA j,iA o,hA,hA,hA,hA,hA,hA,iA p]),((3,0),.box 1 [iA p0a,rA (0,0) (len (qGNodeS s)),iA p0c,iA p0d,bA A]),((6,0),.box 1 [iA 0,zA,iA 0,iA 0,bA false]),((10,0),.box 1 [iA d,iA j,iA o,hA,hA,hA,hA,hA,hA,iA p]),((12,0),.arr 1 1 (qLGOcc y)),((2154,0),.arr 1 1 (qInt Iv)),((2154,1),.arr 1 3 (qGOcc Iw)),((2154,2),.arr 1 3 (qGOcc Iy)),((2154,3),.arr 1 3 (qGOcc Iz)),((2154,4),.arr 1 3 (qGOcc IA)),((2154,5),.arr 1 3 (qGOcc IB)),((2154,10),.arr 1 3 (qGOcc IP))]⟩,?_,?_⟩,trivial⟩
 ·refine bk [((0,0),(1000,0)),((3,0),(1003,0)),((6,0),(1006,0)),((10,0),(1010,0)),((12,0),(1012,0)),((2154,0),(154,0)),((2154,1),(154,1)),((2154,2),(154,2)),((2154,3),(154,3)),((2154,4),(154,4)),((2154,5),(154,5)),((2154,10),(154,10))] ?_
  cbv
  all_goals exact Zb
 cbv
 refine bcs (fun V=>?_) (fun V=>?_)
 replace hh:=ifT hh V
 try rw[V]
 cbv
 obtain⟨LU,hh⟩:=ae hh
 obtain⟨LV,hh⟩:=ae hh
 refine⟨Nb LU,Mb LV,?_⟩
 try refine⟨rfl,?_⟩
 refine eJ hC (bH [14] [206] []) mixed [(2154,10)] ?_
 cbv
 refine⟨Ob,?_⟩
 obtain⟨LX,hh⟩:=ae hh
 refine⟨⟨Ob,Ab⟩,?_⟩
 refine⟨⟨Ob,Wb LX⟩,?_⟩
 ·refine hN1 (_,_,_,_,_) _ hh fun⟨t0,t1,t2,t3,t4⟩ e=>?_
  refine dg hC (0,0) ?_
  cbv
  refine bk [((0,0),(0,0)),((3,0),(3,0)),((6,0),(6,0)),((12,0),(78,0))] ?_
  cbv
  all_goals exact Jz
 replace hh:=ifF hh V
 try rw[V]
 cbv
 obtain⟨LY,hh⟩:=ae hh
 obtain⟨LZ,hh⟩:=ae hh
 refine⟨Nb LY,Mb LZ,?_⟩
 try refine⟨rfl,?_⟩
 refine eJ hC (bH [14] [206] []) mixed [(2154,10)] ?_
 cbv
 refine⟨Ob,?_⟩
 obtain⟨L4,hh⟩:=ae hh
 refine⟨⟨Ob,Ab⟩,?_⟩
 refine⟨⟨Ob,Wb L4⟩,?_⟩
 ·refine hN1 (_,_,_,_,_) _ hh fun⟨t0,t1,t2,t3,t4⟩ e=>?_
  refine dg hC (0,0) ?_
  cbv
  refine bk [((0,0),(0,0)),((3,0),(3,0)),((6,0),(6,0)),((12,0),(78,0))] ?_
  cbv
  all_goals exact Jz
 replace hh:=ifF hh U
 try rw[U]
 cbv
 refine⟨⟨⟨[(1,iA p1),(2,iA p2),(3,mA (3,0)),(6,mA (6,0)),(8,rA (12,0) (len (qLGOcc y))),(9,iA z),(10,mA (10,0)),(53,.tup [.agg [iA d,iA j,iA o,rA (24,0) (len (qInt b)),rA (24,1) (len (qGOcc t)),rA (24,2) (len (qGOcc u)),rA (24,3) (len (qGOcc v)),rA (24,4) (len (qGOcc w)),rA (24,5) (len (qGOcc c)),iA p],rA (2011,0) 0]),(1000000,.agg [iA p0a,rA (0,0) (len (qGNodeS s)),iA p0c,iA p0d,bA B])],[((0,0),.opn 1 10 (qGNodeS s) (nadd 0 (toNat z)) [iA d,iA j,iA o,rA (24,0) (len (qInt b)),rA (24,1) (len (qGOcc t)),rA (24,2) (len (qGOcc u)),rA (24,3) (len (qGOcc v)),rA (24,4) (len (qGOcc w)),rA (24,5) (len (qGOcc c)),iA p]),((3,0),.box 1 [iA p0a,rA (0,0) (len (qGNodeS s)),iA p0c,iA p0d,bA A]),((6,0),.box 1 [iA 0,zA,iA 0,iA 0,bA false]),((10,0),.box 1 [iA d,iA j,iA o,rA (24,0) (len (qInt b)),rA (24,1) (len (qGOcc t)),rA (24,2) (len (qGOcc u)),rA (24,3) (len (qGOcc v)),rA (24,4) (len (qGOcc w)),rA (24,5) (len (qGOcc c)),iA p]),((12,0),.arr 1 1 (qLGOcc y)),((24,0),.arr 1 1 (qInt b)),((24,1),.arr 1 3 (qGOcc t)),((24,2),.arr 1 3 (qGOcc u)),((24,3),.arr 1 3 (qGOcc v)),((24,4),.arr 1 3 (qGOcc w)),((24,5),.arr 1 3 (qGOcc c)),((2011,0),.farr 1 3 (qGOcc ([]:List GOcc)))]⟩,?_,?_⟩,trivial⟩
 ·refine bk [((0,0),(1000,0)),((3,0),(1003,0)),((6,0),(1006,0)),((10,0),(1010,0)),((12,0),(1012,0)),((24,0),(1024,0)),((24,1),(1024,1)),((24,2),(1024,2)),((24,3),(1024,3)),((24,4),(1024,4)),((24,5),(1024,5)),((2011,0),(11,0))] ?_
  cbv
  all_goals exact Zb
 cbv
 refine bcs (fun W=>?_) (fun W=>?_)
 replace hh:=ifT hh W
 try rw[W]
 cbv
 obtain⟨L5,hh⟩:=ae hh
 obtain⟨L6,hh⟩:=ae hh
 refine⟨Nb L5,Mb L6,?_⟩
 try refine⟨rfl,?_⟩
 refine eJ hC (bH [14] [206] []) mixed [] ?_
 cbv
 refine⟨Ob,?_⟩
 obtain⟨L7,hh⟩:=ae hh
 refine⟨⟨Ob,Ab⟩,?_⟩
 refine⟨⟨Ob,Wb L7⟩,?_⟩
 ·refine hN1 (_,_,_,_,_) _ hh fun⟨t0,t1,t2,t3,t4⟩ e=>?_
  refine dg hC (0,0) ?_
  cbv
  refine bk [((0,0),(0,0)),((3,0),(3,0)),((6,0),(6,0)),((12,0),(78,0))] ?_
  cbv
  all_goals exact Jz
 replace hh:=ifF hh W
 try rw[W]
 cbv
 obtain⟨L8,hh⟩:=ae hh
 obtain⟨L9,hh⟩:=ae hh
 refine⟨Nb L8,Mb L9,?_⟩
 try refine⟨rfl,?_⟩
 refine eJ hC (bH [14] [206] []) mixed [] ?_
 cbv
 refine⟨Ob,?_⟩
 obtain⟨Ma,hh⟩:=ae hh
 refine⟨⟨Ob,Ab⟩,?_⟩
 refine⟨⟨Ob,Wb Ma⟩,?_⟩
 ·refine hN1 (_,_,_,_,_) _ hh fun⟨t0,t1,t2,t3,t4⟩ e=>?_
  refine dg hC (0,0) ?_
  cbv
  refine bk [((0,0),(0,0)),((3,0),(3,0)),((6,0),(6,0)),((12,0),(78,0))] ?_
  cbv
  all_goals exact Jz
 replace hh:=ifF hh F
 try rw[F]
 cbv
 exact hD1 (_,_,_,_) _ hh fun⟨t0,t1,t2,t3⟩ e=>kA

end Go.Proofs.YtlbnmldopjadoaaGreat
