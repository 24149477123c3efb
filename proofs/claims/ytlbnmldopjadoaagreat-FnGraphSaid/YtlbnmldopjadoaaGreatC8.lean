/- The functions of this program do what the plain ones do. -/
import Derived.Test.YtlbnmldopjadoaaGreatC7
namespace Go.Proofs.YtlbnmldopjadoaaGreat
open Go Go.Vm
set_option linter.unusedVariables false
set_option maxHeartbeats 4000000
set_option maxRecDepth 4000
variable {qIu8:List Int→Vm.Rows} {qInt:List Int→Vm.Rows} {qGExO:List GEx→Vm.Rows} {qGEx:List GEx→Vm.Rows} {qGEv:List GEv→Vm.Rows} {qGOcc:List GOcc→Vm.Rows} {qGNode:List GNode→Vm.Rows} {qLGOcc:List (List GOcc)→Vm.Rows} {qLInt:List (List Int)→Vm.Rows} {qGOccO:List GOcc→Vm.Rows} {qStr:List ByteArray→Vm.Rows} {qGNodeS:List GNode→Vm.Rows} {qBool:List Bool→Vm.Rows} (hQ:EQ qIu8 qInt qGExO qGEx qGEv qGOcc qGNode qLGOcc qLInt qGOccO qStr qGNodeS qBool)
include hQ
theorem qi {k:Nat} {p0:GGraph} {p1:Int} {p2:Int} {r:GGraph×(List GOcc)} (hh:aN.f k p0 p1 p2=some r):ak P 160 [.agg [iA p0.Mode,oA 10 (qGNodeS p0.Nodes),iA p0.Seen,iA p0.Now,bA p0.Full],iA p1,iA p2] [hA,hA,hA] (.tup [.agg [iA r.1.Mode,oA 10 (qGNodeS r.1.Nodes),iA r.1.Seen,iA r.1.Now,bA r.1.Full],tA (qGOcc r.2)]):=by
 obtain⟨p0a,p0b,p0c,p0d,p0e⟩:=p0
 unfold aN.f at hh
 refine goG (g:=[14]) (i:=[206]) (o:=[]) (sh:=[]) (ts:=[(6,some 91),(7,none)]) (rm:=[.own,.val]) (pm:=[.skip,.skip,.skip]) Tryz.func160 ?_
 unhygienic intros
 cbv
 obtain⟨o1,I2,I3⟩:=af hh
 refine ay hC (bU [14] [206] []) mixed (fun n (i:(List GNode)×Bool×(List (List GOcc))×Int×Bool)=>aN.l0 k (⟨p0a,p0b,p0c,p0d,p0e⟩:GGraph) p1 p2 n i.1 i.2.1 i.2.2.1 i.2.2.2.1 i.2.2.2.2)
  (fun⟨t,C,z,A,D⟩=>(⟨[(1,iA p1),(2,iA p2),(3,.mptr (3,0) 1 0 0),(6,.mptr (6,0) 1 0 0),(8,.ref (12,0) 1 0 (len (qLGOcc z))),(9,iA A),(1000000,.agg [iA p0a,.ref (0,0) 1 0 (len (qGNodeS t)),iA p0c,iA p0d,bA D])],[((0,0),.arr 1 10 (qGNodeS t)),((3,0),.box 1 [iA p0a,.ref (0,0) 1 0 (len (qGNodeS t)),iA p0c,iA p0d,bA C]),((6,0),.box 1 [iA 0,.lit (.slice none 0 0),iA 0,iA 0,bA false]),((12,0),.arr 1 1 (qLGOcc z))]⟩:St))
  (fun(⟨FE,F6,FR,F7⟩:(List GNode)×Bool×(List (List GOcc))×Bool)=>(⟨[(3,.mptr (3,0) 1 0 0),(6,.mptr (6,0) 1 0 0),(8,.ref (12,0) 1 0 (len (qLGOcc FR))),(1000000,.agg [iA p0a,.ref (0,0) 1 0 (len (qGNodeS FE)),iA p0c,iA p0d,bA F7])],[((0,0),.arr 1 10 (qGNodeS FE)),((3,0),.box 1 [iA p0a,.ref (0,0) 1 0 (len (qGNodeS FE)),iA p0c,iA p0d,bA F6]),((6,0),.box 1 [iA 0,.lit (.slice none 0 0),iA 0,iA 0,bA false]),((12,0),.arr 1 1 (qLGOcc FR))]⟩:St)) (fun x=>x) (.exit 0)
  (i0:=(_,_,_,_,_)) I2 (fun _=>rfl) ?_ ?_ ?_
 ·rintro⟨F,G,H,I,K⟩ e
  refine ai ?_
  cbv
  all_goals exact J5
 rintro⟨FE,F6,FR,F7⟩ hx
 subst o1
 have hh:=I3
 cbv
 obtain⟨Gn,hh⟩:=ac hh
 obtain⟨Gp,hh⟩:=ac hh
 refine⟨Nb Gn,Mb Gp,?_⟩
 obtain⟨Gq,Gr,hh⟩:=af hh
 refine⟨[tA (qGOcc Gq)],Gb Gr,?_⟩
 cbv
 exact Eb
 rintro n ⟨t,C,z,A,D⟩ N1 D1 hh B I4 I6
 try dsimp only at hh
 unfold aN.l0 at hh
 cbv
 refine bcs (fun L=>?_) (fun L=>?_)
 replace hh:=ifT hh L
 try rw[L]
 cbv
 obtain⟨Gs,hh⟩:=ac hh
 obtain⟨Gt,hh⟩:=ac hh
 refine⟨Nb Gs,Mb Gt,?_⟩
 obtain⟨⟨d,j,p,b,⟨u,v⟩,⟨w,y⟩,c,s⟩,Gu,hh⟩:=af hh
 try dsimp only at hh
 refine⟨[iA d,iA j,iA p,oA 1 (qInt b),oA 3 (qGOcc u),oA 3 (qGOcc v),oA 3 (qGOcc w),oA 3 (qGOcc y),oA 3 (qGOcc c),iA s],Gb Gu,?_⟩
 cbv
 refine bcs (fun J=>?_) (fun J=>?_)
 replace hh:=ifT hh J
 try rw[J]
 cbv
 refine bcs (fun M=>?_) (fun M=>?_)
 replace hh:=ifT hh M
 try rw[M]
 cbv
 refine⟨Ob,?_⟩
 obtain⟨Gv,hh⟩:=ac hh
 refine⟨⟨Ob,Ab⟩,?_⟩
 refine⟨⟨Ob,Wb Gv⟩,?_⟩
 refine bcs (fun N=>?_) (fun N=>?_)
 replace hh:=ifT hh N
 try rw[N]
 cbv
 obtain⟨Gw,hh⟩:=ac hh
 obtain⟨Gx,hh⟩:=ac hh
 refine⟨Nb Gw,Mb Gx,?_⟩
 try refine⟨rfl,?_⟩
 refine gi hC (bU [14] [206] []) mixed [(43,0)] ?_
 cbv
 refine⟨Ob,?_⟩
 obtain⟨Gy,hh⟩:=ac hh
 refine⟨⟨Ob,Ab⟩,?_⟩
 refine⟨⟨Ob,Wb Gy⟩,?_⟩
 ·refine B (_,_,_,_,_) _ hh fun⟨F,G,H,I,K⟩ e=>?_
  refine dy hC (0,0) ?_
  cbv
  refine aq [((0,0),(0,0)),((3,0),(3,0)),((6,0),(6,0)),((12,0),(78,0))] ?_
  cbv
  all_goals exact J5
 replace hh:=ifF hh N
 try rw[N]
 cbv
 obtain⟨Gz,hh⟩:=ac hh
 obtain⟨GA,hh⟩:=ac hh
 refine⟨Nb Gz,Mb GA,?_⟩
 try refine⟨rfl,?_⟩
 refine gi hC (bU [14] [206] []) mixed [(43,0)] ?_
 cbv
 refine⟨Ob,?_⟩
 obtain⟨GB,hh⟩:=ac hh
 refine⟨⟨Ob,Ab⟩,?_⟩
 refine⟨⟨Ob,Wb GB⟩,?_⟩
 ·refine B (_,_,_,_,_) _ hh fun⟨F,G,H,I,K⟩ e=>?_
  refine dy hC (0,0) ?_
  cbv
  refine aq [((0,0),(0,0)),((3,0),(3,0)),((6,0),(6,0)),((12,0),(78,0))] ?_
  cbv
  all_goals exact J5
 replace hh:=ifF hh M
 try rw[M]
 cbv
 first|rw[J]|(have g:=J;cbv at g;rw[g])
 cbv
 refine bcs (fun O=>?_) (fun O=>?_)
 replace hh:=ifT hh O
 try rw[O]
 cbv
 obtain⟨GC,hh⟩:=ac hh
 obtain⟨GD,hh⟩:=ac hh
 refine⟨Nb GC,Mb GD,?_⟩
 try refine⟨rfl,?_⟩
 refine gi hC (bU [14] [206] []) mixed [(25,0)] ?_
 cbv
 refine⟨Ob,?_⟩
 obtain⟨GE,hh⟩:=ac hh
 refine⟨⟨Ob,Ab⟩,?_⟩
 refine⟨⟨Ob,Wb GE⟩,?_⟩
 ·refine B (_,_,_,_,_) _ hh fun⟨F,G,H,I,K⟩ e=>?_
  refine dy hC (0,0) ?_
  cbv
  refine aq [((0,0),(0,0)),((3,0),(3,0)),((6,0),(6,0)),((12,0),(78,0))] ?_
  cbv
  all_goals exact J5
 replace hh:=ifF hh O
 try rw[O]
 cbv
 obtain⟨GF,hh⟩:=ac hh
 obtain⟨GG,hh⟩:=ac hh
 refine⟨Nb GF,Mb GG,?_⟩
 try refine⟨rfl,?_⟩
 refine gi hC (bU [14] [206] []) mixed [(25,0)] ?_
 cbv
 refine⟨Ob,?_⟩
 obtain⟨GH,hh⟩:=ac hh
 refine⟨⟨Ob,Ab⟩,?_⟩
 refine⟨⟨Ob,Wb GH⟩,?_⟩
 ·refine B (_,_,_,_,_) _ hh fun⟨F,G,H,I,K⟩ e=>?_
  refine dy hC (0,0) ?_
  cbv
  refine aq [((0,0),(0,0)),((3,0),(3,0)),((6,0),(6,0)),((12,0),(78,0))] ?_
  cbv
  all_goals exact J5
 replace hh:=ifF hh J
 try rw[J]
 cbv
 first|rw[J]|(have g:=J;cbv at g;rw[g])
 cbv
 refine yb hC (bU [14] [206] []) mixed (ts:=[(8,some 175),(9,none)]) (⟨[(0,iA p0a),(1,.agg [iA d,iA j,iA p,.ref (1024,0) 1 0 (len (qInt b)),.ref (1024,1) 1 0 (len (qGOcc u)),.ref (1024,2) 1 0 (len (qGOcc v)),.ref (1024,3) 1 0 (len (qGOcc w)),.ref (1024,4) 1 0 (len (qGOcc y)),.ref (1024,5) 1 0 (len (qGOcc c)),iA s]),(2,iA p1),(3,.ref (1012,0) 1 0 (len (qLGOcc z))),(2000001,iA p1),(2000002,iA p2),(2000003,.mptr (1003,0) 1 0 0),(2000006,.mptr (1006,0) 1 0 0),(2000008,.ref (1012,0) 1 0 (len (qLGOcc z))),(2000009,iA A),(2000010,.mptr (1010,0) 1 0 0),(3000000,.agg [iA p0a,.ref (1000,0) 1 0 (len (qGNodeS t)),iA p0c,iA p0d,bA D])],[((1000,0),.opn 1 10 (qGNodeS t) (nadd 0 (toNat A)) [iA d,iA j,iA p,.ref (1024,0) 1 0 (len (qInt b)),.ref (1024,1) 1 0 (len (qGOcc u)),.ref (1024,2) 1 0 (len (qGOcc v)),.ref (1024,3) 1 0 (len (qGOcc w)),.ref (1024,4) 1 0 (len (qGOcc y)),.ref (1024,5) 1 0 (len (qGOcc c)),iA s]),((1003,0),.box 1 [iA p0a,.ref (1000,0) 1 0 (len (qGNodeS t)),iA p0c,iA p0d,bA C]),((1006,0),.box 1 [iA 0,.lit (.slice none 0 0),iA 0,iA 0,bA false]),((1010,0),.box 1 [iA d,iA j,iA p,.ref (1024,0) 1 0 (len (qInt b)),.ref (1024,1) 1 0 (len (qGOcc u)),.ref (1024,2) 1 0 (len (qGOcc v)),.ref (1024,3) 1 0 (len (qGOcc w)),.ref (1024,4) 1 0 (len (qGOcc y)),.ref (1024,5) 1 0 (len (qGOcc c)),iA s]),((1012,0),.arr 1 1 (qLGOcc z)),((1024,0),.arr 1 1 (qInt b)),((1024,1),.arr 1 3 (qGOcc u)),((1024,2),.arr 1 3 (qGOcc v)),((1024,3),.arr 1 3 (qGOcc w)),((1024,4),.arr 1 3 (qGOcc y)),((1024,5),.arr 1 3 (qGOcc c))]⟩:St) Tryz.func206 (by kernel_rfl) (by kernel_rfl) ?_ ?_
 ·refine aq [((1000,0),(0,0)),((1003,0),(3,0)),((1006,0),(6,0)),((1010,0),(10,0)),((1012,0),(12,0)),((1024,0),(24,0)),((1024,1),(24,1)),((1024,2),(24,2)),((1024,3),(24,3)),((1024,4),(24,4)),((1024,5),(24,5))] ?_
  cbv
  all_goals exact Zb
 cbv
 refine bcs (fun Q=>?_) (fun Q=>?_)
 replace hh:=ifT hh Q
 try rw[Q]
 cbv
 obtain⟨GI,hh⟩:=ac hh
 obtain⟨F8,hh⟩:=ac hh
 try dsimp only at F8
 refine⟨Nb GI,Mb F8,?_⟩
 obtain⟨GJ,GK,hh⟩:=af hh
 refine⟨[iA GJ],Gb GK,?_⟩
 cbv
 obtain⟨GL,hh⟩:=ac hh
 obtain⟨GM,hh⟩:=ac hh
 refine⟨Nb GL,Mb GM,?_⟩
 obtain⟨GN,GO,hh⟩:=af hh
 refine⟨[tA (qGOcc GN)],Gb GO,?_⟩
 cbv
 obtain⟨GP,GQ,hh⟩:=af hh
 refine ag hF (ak.frzIn (r':=oA 3 (qGOcc GP)) (qb hQ GQ) (by cases hQ;simp)) ?_
 cbv
 obtain⟨GR,hh⟩:=ac hh
 obtain⟨F9,hh⟩:=ac hh
 try dsimp only at F9
 refine⟨Nb GR,Mb F9,?_⟩
 obtain⟨GS,GT,hh⟩:=af hh
 refine⟨[iA GS],Gb GT,?_⟩
 cbv
 obtain⟨GU,hh⟩:=ac hh
 obtain⟨GV,hh⟩:=ac hh
 refine⟨Nb GU,Mb GV,?_⟩
 obtain⟨GW,GX,hh⟩:=af hh
 refine⟨[tA (qGOcc GW)],Gb GX,?_⟩
 cbv
 obtain⟨Ga,GY,hh⟩:=af hh
 refine ag hF (ak.frz (r':=tA (qGOcc Ga)) (c9 hQ GY) (by cases hQ;simp)) ?_
 cbv
 refine⟨⟨(⟨[(1,iA p1),(2,iA p2),(3,.mptr (3,0) 1 0 0),(6,.mptr (6,0) 1 0 0),(8,.ref (12,0) 1 0 (len (qLGOcc z))),(9,iA A),(10,.mptr (10,0) 1 0 0),(53,.tup [.agg [iA d,iA j,iA p,.ref (24,0) 1 0 (len (qInt b)),.ref (24,1) 1 0 (len (qGOcc u)),.ref (24,2) 1 0 (len (qGOcc v)),.ref (24,3) 1 0 (len (qGOcc w)),.ref (24,4) 1 0 (len (qGOcc y)),.ref (24,5) 1 0 (len (qGOcc c)),iA s],tA (qGOcc Ga)]),(1000000,.agg [iA p0a,.ref (0,0) 1 0 (len (qGNodeS t)),iA p0c,iA p0d,bA D])],[((0,0),.opn 1 10 (qGNodeS t) (nadd 0 (toNat A)) [iA d,iA j,iA p,.ref (24,0) 1 0 (len (qInt b)),.ref (24,1) 1 0 (len (qGOcc u)),.ref (24,2) 1 0 (len (qGOcc v)),.ref (24,3) 1 0 (len (qGOcc w)),.ref (24,4) 1 0 (len (qGOcc y)),.ref (24,5) 1 0 (len (qGOcc c)),iA s]),((3,0),.box 1 [iA p0a,.ref (0,0) 1 0 (len (qGNodeS t)),iA p0c,iA p0d,bA C]),((6,0),.box 1 [iA 0,.lit (.slice none 0 0),iA 0,iA 0,bA false]),((10,0),.box 1 [iA d,iA j,iA p,.ref (24,0) 1 0 (len (qInt b)),.ref (24,1) 1 0 (len (qGOcc u)),.ref (24,2) 1 0 (len (qGOcc v)),.ref (24,3) 1 0 (len (qGOcc w)),.ref (24,4) 1 0 (len (qGOcc y)),.ref (24,5) 1 0 (len (qGOcc c)),iA s]),((12,0),.arr 1 1 (qLGOcc z)),((24,0),.arr 1 1 (qInt b)),((24,1),.arr 1 3 (qGOcc u)),((24,2),.arr 1 3 (qGOcc v)),((24,3),.arr 1 3 (qGOcc w)),((24,4),.arr 1 3 (qGOcc y)),((24,5),.arr 1 3 (qGOcc c))]⟩:St),?_,?_⟩,trivial⟩
 ·refine aq [((0,0),(1000,0)),((3,0),(1003,0)),((6,0),(1006,0)),((10,0),(1010,0)),((12,0),(1012,0)),((24,0),(1024,0)),((24,1),(1024,1)),((24,2),(1024,2)),((24,3),(1024,3)),((24,4),(1024,4)),((24,5),(1024,5))] ?_
  cbv
  all_goals exact Zb
 cbv
 refine bcs (fun R=>?_) (fun R=>?_)
 replace hh:=ifT hh R
 try rw[R]
 cbv
 obtain⟨GZ,hh⟩:=ac hh
 obtain⟨G0,hh⟩:=ac hh
 refine⟨Nb GZ,Mb G0,?_⟩
 try refine⟨rfl,?_⟩
 refine gi hC (bU [14] [206] []) mixed [] ?_
 cbv
 obtain⟨G1,hh⟩:=ac hh
 refine⟨⟨Ob,Ab⟩,?_⟩
 refine⟨⟨Ob,Wb G1⟩,?_⟩
 ·refine B (_,_,_,_,_) _ hh fun⟨F,G,H,I,K⟩ e=>?_
  refine dy hC (0,0) ?_
  cbv
  refine aq [((0,0),(0,0)),((3,0),(3,0)),((6,0),(6,0)),((12,0),(78,0))] ?_
  cbv
  all_goals exact J5
 replace hh:=ifF hh R
 try rw[R]
 cbv
 obtain⟨G2,hh⟩:=ac hh
 obtain⟨G3,hh⟩:=ac hh
 refine⟨Nb G2,Mb G3,?_⟩
 try refine⟨rfl,?_⟩
 refine gi hC (bU [14] [206] []) mixed [] ?_
 cbv
 obtain⟨G4,hh⟩:=ac hh
 refine⟨⟨Ob,Ab⟩,?_⟩
 refine⟨⟨Ob,Wb G4⟩,?_⟩
 ·refine B (_,_,_,_,_) _ hh fun⟨F,G,H,I,K⟩ e=>?_
  refine dy hC (0,0) ?_
  cbv
  refine aq [((0,0),(0,0)),((3,0),(3,0)),((6,0),(6,0)),((12,0),(78,0))] ?_
  cbv
  all_goals exact J5
 replace hh:=ifF hh Q
 try rw[Q]
 cbv
 refine bcs (fun S=>?_) (fun S=>?_)
 replace hh:=ifT hh S
 try rw[S]
 cbv
 obtain⟨G5,hh⟩:=ac hh
 obtain⟨Gc,hh⟩:=ac hh
 try dsimp only at Gc
 refine⟨Nb G5,Mb Gc,?_⟩
 obtain⟨G6,G7,hh⟩:=af hh
 refine⟨[iA G6],Gb G7,?_⟩
 cbv
 obtain⟨G8,hh⟩:=ac hh
 obtain⟨G9,hh⟩:=ac hh
 refine⟨Nb G8,Mb G9,?_⟩
 obtain⟨Ha,Hb,hh⟩:=af hh
 refine⟨[tA (qGOcc Ha)],Gb Hb,?_⟩
 cbv
 obtain⟨Hc,hh⟩:=ac hh
 obtain⟨Gd,hh⟩:=ac hh
 try dsimp only at Gd
 refine⟨Nb Hc,Mb Gd,?_⟩
 obtain⟨Hd,He,hh⟩:=af hh
 refine⟨[iA Hd],Gb He,?_⟩
 cbv
 obtain⟨Hf,hh⟩:=ac hh
 obtain⟨Hg,hh⟩:=ac hh
 refine⟨Nb Hf,Mb Hg,?_⟩
 obtain⟨Hh,Hi,hh⟩:=af hh
 refine⟨[tA (qGOcc Hh)],Gb Hi,?_⟩
 cbv
 obtain⟨⟨⟨E3,Ff⟩,FH⟩,Hj,hh⟩:=af hh
 try dsimp only at hh
 have fc:=xS hQ Hj
 try dsimp only at fc
 refine ag hF fc ?_
 cbv
 refine⟨⟨(⟨[(1,iA p1),(2,iA p2),(3,.mptr (3,0) 1 0 0),(6,.mptr (6,0) 1 0 0),(8,.ref (12,0) 1 0 (len (qLGOcc z))),(9,iA A),(10,.mptr (10,0) 1 0 0),(53,.tup [.agg [iA d,iA j,iA p,.ref (24,0) 1 0 (len (qInt b)),.ref (2053,0) 1 0 (len (qGOcc E3)),.ref (2053,1) 1 0 (len (qGOcc Ff)),.ref (24,3) 1 0 (len (qGOcc w)),.ref (24,4) 1 0 (len (qGOcc y)),.ref (24,5) 1 0 (len (qGOcc c)),iA s],.ref (2053,2) 1 0 (len (qGOcc FH))]),(1000000,.agg [iA p0a,.ref (0,0) 1 0 (len (qGNodeS t)),iA p0c,iA p0d,bA D])],[((0,0),.opn 1 10 (qGNodeS t) (nadd 0 (toNat A)) [iA d,iA j,iA p,.ref (24,0) 1 0 (len (qInt b)),hA,hA,.ref (24,3) 1 0 (len (qGOcc w)),.ref (24,4) 1 0 (len (qGOcc y)),.ref (24,5) 1 0 (len (qGOcc c)),iA s]),((3,0),.box 1 [iA p0a,.ref (0,0) 1 0 (len (qGNodeS t)),iA p0c,iA p0d,bA C]),((6,0),.box 1 [iA 0,.lit (.slice none 0 0),iA 0,iA 0,bA false]),((10,0),.box 1 [iA d,iA j,iA p,.ref (24,0) 1 0 (len (qInt b)),hA,hA,.ref (24,3) 1 0 (len (qGOcc w)),.ref (24,4) 1 0 (len (qGOcc y)),.ref (24,5) 1 0 (len (qGOcc c)),iA s]),((12,0),.arr 1 1 (qLGOcc z)),((24,0),.arr 1 1 (qInt b)),((24,3),.arr 1 3 (qGOcc w)),((24,4),.arr 1 3 (qGOcc y)),((24,5),.arr 1 3 (qGOcc c)),((2053,0),.arr 1 3 (qGOcc E3)),((2053,1),.arr 1 3 (qGOcc Ff)),((2053,2),.arr 1 3 (qGOcc FH))]⟩:St),?_,?_⟩,trivial⟩
 ·refine aq [((0,0),(1000,0)),((3,0),(1003,0)),((6,0),(1006,0)),((10,0),(1010,0)),((12,0),(1012,0)),((24,0),(1024,0)),((24,3),(1024,3)),((24,4),(1024,4)),((24,5),(1024,5)),((2053,0),(53,0)),((2053,1),(53,1)),((2053,2),(53,2))] ?_
  cbv
  all_goals exact Zb
 cbv
 refine bcs (fun T=>?_) (fun T=>?_)
 replace hh:=ifT hh T
 try rw[T]
 cbv
 obtain⟨Hk,hh⟩:=ac hh
 obtain⟨Hl,hh⟩:=ac hh
 refine⟨Nb Hk,Mb Hl,?_⟩
 try refine⟨rfl,?_⟩
 refine gi hC (bU [14] [206] []) mixed [(2053,2)] ?_
 cbv
 refine⟨Ob,?_⟩
 obtain⟨Hm,hh⟩:=ac hh
 refine⟨⟨Ob,Ab⟩,?_⟩
 refine⟨⟨Ob,Wb Hm⟩,?_⟩
 ·refine B (_,_,_,_,_) _ hh fun⟨F,G,H,I,K⟩ e=>?_
  refine dy hC (0,0) ?_
  cbv
  refine aq [((0,0),(0,0)),((3,0),(3,0)),((6,0),(6,0)),((12,0),(78,0))] ?_
  cbv
  all_goals exact J5
 replace hh:=ifF hh T
 try rw[T]
 cbv
 obtain⟨Hn,hh⟩:=ac hh
 obtain⟨Ho,hh⟩:=ac hh
 refine⟨Nb Hn,Mb Ho,?_⟩
 try refine⟨rfl,?_⟩
 refine gi hC (bU [14] [206] []) mixed [(2053,2)] ?_
 cbv
 refine⟨Ob,?_⟩
 obtain⟨Hp,hh⟩:=ac hh
 refine⟨⟨Ob,Ab⟩,?_⟩
 refine⟨⟨Ob,Wb Hp⟩,?_⟩
 ·refine B (_,_,_,_,_) _ hh fun⟨F,G,H,I,K⟩ e=>?_
  refine dy hC (0,0) ?_
  cbv
  refine aq [((0,0),(0,0)),((3,0),(3,0)),((6,0),(6,0)),((12,0),(78,0))] ?_
  cbv
  all_goals exact J5
 replace hh:=ifF hh S
 try rw[S]
 cbv
 refine bcs (fun U=>?_) (fun U=>?_)
 replace hh:=ifT hh U
 try rw[U]
 cbv
 obtain⟨Hq,hh⟩:=ac hh
 obtain⟨Ge,hh⟩:=ac hh
 try dsimp only at Ge
 refine⟨Nb Hq,Mb Ge,?_⟩
 obtain⟨Hr,Hs,hh⟩:=af hh
 refine⟨[iA Hr],Gb Hs,?_⟩
 cbv
 obtain⟨Ht,hh⟩:=ac hh
 obtain⟨Hu,hh⟩:=ac hh
 refine⟨Nb Ht,Mb Hu,?_⟩
 obtain⟨Hv,Hw,hh⟩:=af hh
 refine⟨[tA (qGOcc Hv)],Gb Hw,?_⟩
 cbv
 obtain⟨Hx,hh⟩:=ac hh
 obtain⟨Gf,hh⟩:=ac hh
 try dsimp only at Gf
 refine⟨Nb Hx,Mb Gf,?_⟩
 obtain⟨Hy,Hz,hh⟩:=af hh
 refine⟨[iA Hy],Gb Hz,?_⟩
 cbv
 obtain⟨HA,hh⟩:=ac hh
 obtain⟨HB,hh⟩:=ac hh
 refine⟨Nb HA,Mb HB,?_⟩
 obtain⟨HC,HD,hh⟩:=af hh
 refine⟨[tA (qGOcc HC)],Gb HD,?_⟩
 cbv
 obtain⟨⟨⟨Fj,Fk⟩,FI⟩,HE,hh⟩:=af hh
 try dsimp only at hh
 have fc:=zB hQ HE
 try dsimp only at fc
 refine ag hF fc ?_
 cbv
 refine⟨⟨(⟨[(1,iA p1),(2,iA p2),(3,.mptr (3,0) 1 0 0),(6,.mptr (6,0) 1 0 0),(8,.ref (12,0) 1 0 (len (qLGOcc z))),(9,iA A),(10,.mptr (10,0) 1 0 0),(53,.tup [.agg [iA d,iA j,iA p,.ref (24,0) 1 0 (len (qInt b)),.ref (2077,0) 1 0 (len (qGOcc Fj)),.ref (2077,1) 1 0 (len (qGOcc Fk)),.ref (24,3) 1 0 (len (qGOcc w)),.ref (24,4) 1 0 (len (qGOcc y)),.ref (24,5) 1 0 (len (qGOcc c)),iA s],.ref (2077,2) 1 0 (len (qGOcc FI))]),(1000000,.agg [iA p0a,.ref (0,0) 1 0 (len (qGNodeS t)),iA p0c,iA p0d,bA D])],[((0,0),.opn 1 10 (qGNodeS t) (nadd 0 (toNat A)) [iA d,iA j,iA p,.ref (24,0) 1 0 (len (qInt b)),hA,hA,.ref (24,3) 1 0 (len (qGOcc w)),.ref (24,4) 1 0 (len (qGOcc y)),.ref (24,5) 1 0 (len (qGOcc c)),iA s]),((3,0),.box 1 [iA p0a,.ref (0,0) 1 0 (len (qGNodeS t)),iA p0c,iA p0d,bA C]),((6,0),.box 1 [iA 0,.lit (.slice none 0 0),iA 0,iA 0,bA false]),((10,0),.box 1 [iA d,iA j,iA p,.ref (24,0) 1 0 (len (qInt b)),hA,hA,.ref (24,3) 1 0 (len (qGOcc w)),.ref (24,4) 1 0 (len (qGOcc y)),.ref (24,5) 1 0 (len (qGOcc c)),iA s]),((12,0),.arr 1 1 (qLGOcc z)),((24,0),.arr 1 1 (qInt b)),((24,3),.arr 1 3 (qGOcc w)),((24,4),.arr 1 3 (qGOcc y)),((24,5),.arr 1 3 (qGOcc c)),((2077,0),.arr 1 3 (qGOcc Fj)),((2077,1),.arr 1 3 (qGOcc Fk)),((2077,2),.arr 1 3 (qGOcc FI))]⟩:St),?_,?_⟩,trivial⟩
 ·refine aq [((0,0),(1000,0)),((3,0),(1003,0)),((6,0),(1006,0)),((10,0),(1010,0)),((12,0),(1012,0)),((24,0),(1024,0)),((24,3),(1024,3)),((24,4),(1024,4)),((24,5),(1024,5)),((2077,0),(77,0)),((2077,1),(77,1)),((2077,2),(77,2))] ?_
  cbv
  all_goals exact Zb
 cbv
 refine bcs (fun V=>?_) (fun V=>?_)
 replace hh:=ifT hh V
 try rw[V]
 cbv
 obtain⟨HF,hh⟩:=ac hh
 obtain⟨HG,hh⟩:=ac hh
 refine⟨Nb HF,Mb HG,?_⟩
 try refine⟨rfl,?_⟩
 refine gi hC (bU [14] [206] []) mixed [(2077,2)] ?_
 cbv
 refine⟨Ob,?_⟩
 obtain⟨HH,hh⟩:=ac hh
 refine⟨⟨Ob,Ab⟩,?_⟩
 refine⟨⟨Ob,Wb HH⟩,?_⟩
 ·refine B (_,_,_,_,_) _ hh fun⟨F,G,H,I,K⟩ e=>?_
  refine dy hC (0,0) ?_
  cbv
  refine aq [((0,0),(0,0)),((3,0),(3,0)),((6,0),(6,0)),((12,0),(78,0))] ?_
  cbv
  all_goals exact J5
 replace hh:=ifF hh V
 try rw[V]
 cbv
 obtain⟨HI,hh⟩:=ac hh
 obtain⟨HJ,hh⟩:=ac hh
 refine⟨Nb HI,Mb HJ,?_⟩
 try refine⟨rfl,?_⟩
 refine gi hC (bU [14] [206] []) mixed [(2077,2)] ?_
 cbv
 refine⟨Ob,?_⟩
 obtain⟨HK,hh⟩:=ac hh
 refine⟨⟨Ob,Ab⟩,?_⟩
 refine⟨⟨Ob,Wb HK⟩,?_⟩
 ·refine B (_,_,_,_,_) _ hh fun⟨F,G,H,I,K⟩ e=>?_
  refine dy hC (0,0) ?_
  cbv
  refine aq [((0,0),(0,0)),((3,0),(3,0)),((6,0),(6,0)),((12,0),(78,0))] ?_
  cbv
  all_goals exact J5
 replace hh:=ifF hh U
 try rw[U]
 cbv
 refine bcs (fun W=>?_) (fun W=>?_)
 replace hh:=ifT hh W
 try rw[W]
 cbv
 obtain⟨HL,hh⟩:=ac hh
 obtain⟨Gg,hh⟩:=ac hh
 try dsimp only at Gg
 refine⟨Nb HL,Mb Gg,?_⟩
 obtain⟨HM,HO,hh⟩:=af hh
 refine⟨[iA HM],Gb HO,?_⟩
 cbv
 obtain⟨HP,hh⟩:=ac hh
 obtain⟨HQ,hh⟩:=ac hh
 refine⟨Nb HP,Mb HQ,?_⟩
 obtain⟨HR,HS,hh⟩:=af hh
 refine⟨[tA (qGOcc HR)],Gb HS,?_⟩
 cbv
 obtain⟨HT,hh⟩:=ac hh
 obtain⟨Gh,hh⟩:=ac hh
 try dsimp only at Gh
 refine⟨Nb HT,Mb Gh,?_⟩
 obtain⟨HU,HV,hh⟩:=af hh
 refine⟨[iA HU],Gb HV,?_⟩
 cbv
 obtain⟨HW,hh⟩:=ac hh
 obtain⟨HX,hh⟩:=ac hh
 refine⟨Nb HW,Mb HX,?_⟩
 obtain⟨HY,HZ,hh⟩:=af hh
 refine⟨[tA (qGOcc HY)],Gb HZ,?_⟩
 cbv
 obtain⟨H0,hh⟩:=ac hh
 obtain⟨Gi,hh⟩:=ac hh
 try dsimp only at Gi
 refine⟨Nb H0,Mb Gi,?_⟩
 obtain⟨H1,H2,hh⟩:=af hh
 refine⟨[iA H1],Gb H2,?_⟩
 cbv
 obtain⟨H3,hh⟩:=ac hh
 obtain⟨H4,hh⟩:=ac hh
 refine⟨Nb H3,Mb H4,?_⟩
 obtain⟨H5,H6,hh⟩:=af hh
 refine⟨[tA (qGOcc H5)],Gb H6,?_⟩
 cbv
 obtain⟨⟨⟨Fm,Fo⟩,FJ⟩,H7,hh⟩:=af hh
 try dsimp only at hh
 have fc:=zy hQ H7
 try dsimp only at fc
 refine ag hF fc ?_
 cbv
 refine⟨⟨(⟨[(1,iA p1),(2,iA p2),(3,.mptr (3,0) 1 0 0),(6,.mptr (6,0) 1 0 0),(8,.ref (12,0) 1 0 (len (qLGOcc z))),(9,iA A),(10,.mptr (10,0) 1 0 0),(53,.tup [.agg [iA d,iA j,iA p,.ref (24,0) 1 0 (len (qInt b)),.ref (24,1) 1 0 (len (qGOcc u)),.ref (24,2) 1 0 (len (qGOcc v)),.ref (2108,0) 1 0 (len (qGOcc Fm)),.ref (2108,1) 1 0 (len (qGOcc Fo)),.ref (24,5) 1 0 (len (qGOcc c)),iA s],.ref (2108,2) 1 0 (len (qGOcc FJ))]),(1000000,.agg [iA p0a,.ref (0,0) 1 0 (len (qGNodeS t)),iA p0c,iA p0d,bA D])],[((0,0),.opn 1 10 (qGNodeS t) (nadd 0 (toNat A)) [iA d,iA j,iA p,.ref (24,0) 1 0 (len (qInt b)),.ref (24,1) 1 0 (len (qGOcc u)),.ref (24,2) 1 0 (len (qGOcc v)),hA,hA,.ref (24,5) 1 0 (len (qGOcc c)),iA s]),((3,0),.box 1 [iA p0a,.ref (0,0) 1 0 (len (qGNodeS t)),iA p0c,iA p0d,bA C]),((6,0),.box 1 [iA 0,.lit (.slice none 0 0),iA 0,iA 0,bA false]),((10,0),.box 1 [iA d,iA j,iA p,.ref (24,0) 1 0 (len (qInt b)),.ref (24,1) 1 0 (len (qGOcc u)),.ref (24,2) 1 0 (len (qGOcc v)),hA,hA,.ref (24,5) 1 0 (len (qGOcc c)),iA s]),((12,0),.arr 1 1 (qLGOcc z)),((24,0),.arr 1 1 (qInt b)),((24,1),.arr 1 3 (qGOcc u)),((24,2),.arr 1 3 (qGOcc v)),((24,5),.arr 1 3 (qGOcc c)),((2108,0),.arr 1 3 (qGOcc Fm)),((2108,1),.arr 1 3 (qGOcc Fo)),((2108,2),.arr 1 3 (qGOcc FJ))]⟩:St),?_,?_⟩,trivial⟩
 ·refine aq [((0,0),(1000,0)),((3,0),(1003,0)),((6,0),(1006,0)),((10,0),(1010,0)),((12,0),(1012,0)),((24,0),(1024,0)),((24,1),(1024,1)),((24,2),(1024,2)),((24,5),(1024,5)),((2108,0),(108,0)),((2108,1),(108,1)),((2108,2),(108,2))] ?_
  cbv
  all_goals exact Zb
 cbv
 refine bcs (fun X=>?_) (fun X=>?_)
 replace hh:=ifT hh X
 try rw[X]
 cbv
 obtain⟨H8,hh⟩:=ac hh
 obtain⟨H9,hh⟩:=ac hh
 refine⟨Nb H8,Mb H9,?_⟩
 try refine⟨rfl,?_⟩
 refine gi hC (bU [14] [206] []) mixed [(2108,2)] ?_
 cbv
 refine⟨Ob,?_⟩
 obtain⟨Ia,hh⟩:=ac hh
 refine⟨⟨Ob,Ab⟩,?_⟩
 refine⟨⟨Ob,Wb Ia⟩,?_⟩
 ·refine B (_,_,_,_,_) _ hh fun⟨F,G,H,I,K⟩ e=>?_
  refine dy hC (0,0) ?_
  cbv
  refine aq [((0,0),(0,0)),((3,0),(3,0)),((6,0),(6,0)),((12,0),(78,0))] ?_
  cbv
  all_goals exact J5
 replace hh:=ifF hh X
 try rw[X]
 cbv
 obtain⟨Ib,hh⟩:=ac hh
 obtain⟨Ic,hh⟩:=ac hh
 refine⟨Nb Ib,Mb Ic,?_⟩
 try refine⟨rfl,?_⟩
 refine gi hC (bU [14] [206] []) mixed [(2108,2)] ?_
 cbv
 refine⟨Ob,?_⟩
 obtain⟨Id,hh⟩:=ac hh
 refine⟨⟨Ob,Ab⟩,?_⟩
 refine⟨⟨Ob,Wb Id⟩,?_⟩
 ·refine B (_,_,_,_,_) _ hh fun⟨F,G,H,I,K⟩ e=>?_
  refine dy hC (0,0) ?_
  cbv
  refine aq [((0,0),(0,0)),((3,0),(3,0)),((6,0),(6,0)),((12,0),(78,0))] ?_
  cbv
  all_goals exact J5
 replace hh:=ifF hh W
 try rw[W]
 cbv
 refine bcs (fun Y=>?_) (fun Y=>?_)
 replace hh:=ifT hh Y
 try rw[Y]
 cbv
 obtain⟨Ie,hh⟩:=ac hh
 obtain⟨Gj,hh⟩:=ac hh
 try dsimp only at Gj
 refine⟨Nb Ie,Mb Gj,?_⟩
 obtain⟨If,Ig,hh⟩:=af hh
 refine⟨[iA If],Gb Ig,?_⟩
 cbv
 obtain⟨Ih,hh⟩:=ac hh
 obtain⟨Ii,hh⟩:=ac hh
 refine⟨Nb Ih,Mb Ii,?_⟩
 obtain⟨Ij,Ik,hh⟩:=af hh
 refine⟨[tA (qGOcc Ij)],Gb Ik,?_⟩
 cbv
 obtain⟨Il,hh⟩:=ac hh
 obtain⟨Gk,hh⟩:=ac hh
 try dsimp only at Gk
 refine⟨Nb Il,Mb Gk,?_⟩
 obtain⟨Im,Io,hh⟩:=af hh
 refine⟨[iA Im],Gb Io,?_⟩
 cbv
 obtain⟨Ip,hh⟩:=ac hh
 obtain⟨Iq,hh⟩:=ac hh
 refine⟨Nb Ip,Mb Iq,?_⟩
 obtain⟨Ir,Is,hh⟩:=af hh
 refine⟨[tA (qGOcc Ir)],Gb Is,?_⟩
 cbv
 obtain⟨It,hh⟩:=ac hh
 obtain⟨Gl,hh⟩:=ac hh
 try dsimp only at Gl
 refine⟨Nb It,Mb Gl,?_⟩
 obtain⟨Iu,Iv,hh⟩:=af hh
 refine⟨[iA Iu],Gb Iv,?_⟩
 cbv
 obtain⟨Iw,hh⟩:=ac hh
 obtain⟨Ix,hh⟩:=ac hh
 refine⟨Nb Iw,Mb Ix,?_⟩
 obtain⟨Iy,Iz,hh⟩:=af hh
 refine⟨[tA (qGOcc Iy)],Gb Iz,?_⟩
 cbv
 obtain⟨⟨⟨Fp,Fq⟩,FM⟩,IA,hh⟩:=af hh
 try dsimp only at hh
 have fc:=wQ hQ IA
 try dsimp only at fc
 refine ag hF fc ?_
 cbv
 refine⟨⟨(⟨[(1,iA p1),(2,iA p2),(3,.mptr (3,0) 1 0 0),(6,.mptr (6,0) 1 0 0),(8,.ref (12,0) 1 0 (len (qLGOcc z))),(9,iA A),(10,.mptr (10,0) 1 0 0),(53,.tup [.agg [iA d,iA j,iA p,.ref (24,0) 1 0 (len (qInt b)),.ref (24,1) 1 0 (len (qGOcc u)),.ref (24,2) 1 0 (len (qGOcc v)),.ref (2139,0) 1 0 (len (qGOcc Fp)),.ref (2139,1) 1 0 (len (qGOcc Fq)),.ref (24,5) 1 0 (len (qGOcc c)),iA s],.ref (2139,2) 1 0 (len (qGOcc FM))]),(1000000,.agg [iA p0a,.ref (0,0) 1 0 (len (qGNodeS t)),iA p0c,iA p0d,bA D])],[((0,0),.opn 1 10 (qGNodeS t) (nadd 0 (toNat A)) [iA d,iA j,iA p,.ref (24,0) 1 0 (len (qInt b)),.ref (24,1) 1 0 (len (qGOcc u)),.ref (24,2) 1 0 (len (qGOcc v)),hA,hA,.ref (24,5) 1 0 (len (qGOcc c)),iA s]),((3,0),.box 1 [iA p0a,.ref (0,0) 1 0 (len (qGNodeS t)),iA p0c,iA p0d,bA C]),((6,0),.box 1 [iA 0,.lit (.slice none 0 0),iA 0,iA 0,bA false]),((10,0),.box 1 [iA d,iA j,iA p,.ref (24,0) 1 0 (len (qInt b)),.ref (24,1) 1 0 (len (qGOcc u)),.ref (24,2) 1 0 (len (qGOcc v)),hA,hA,.ref (24,5) 1 0 (len (qGOcc c)),iA s]),((12,0),.arr 1 1 (qLGOcc z)),((24,0),.arr 1 1 (qInt b)),((24,1),.arr 1 3 (qGOcc u)),((24,2),.arr 1 3 (qGOcc v)),((24,5),.arr 1 3 (qGOcc c)),((2139,0),.arr 1 3 (qGOcc Fp)),((2139,1),.arr 1 3 (qGOcc Fq)),((2139,2),.arr 1 3 (qGOcc FM))]⟩:St),?_,?_⟩,trivial⟩
 ·refine aq [((0,0),(1000,0)),((3,0),(1003,0)),((6,0),(1006,0)),((10,0),(1010,0)),((12,0),(1012,0)),((24,0),(1024,0)),((24,1),(1024,1)),((24,2),(1024,2)),((24,5),(1024,5)),((2139,0),(139,0)),((2139,1),(139,1)),((2139,2),(139,2))] ?_
  cbv
  all_goals exact Zb
 cbv
 refine bcs (fun Z=>?_) (fun Z=>?_)
 replace hh:=ifT hh Z
 try rw[Z]
 cbv
 obtain⟨IB,hh⟩:=ac hh
 obtain⟨IC,hh⟩:=ac hh
 refine⟨Nb IB,Mb IC,?_⟩
 try refine⟨rfl,?_⟩
 refine gi hC (bU [14] [206] []) mixed [(2139,2)] ?_
 cbv
 refine⟨Ob,?_⟩
 obtain⟨ID,hh⟩:=ac hh
 refine⟨⟨Ob,Ab⟩,?_⟩
 refine⟨⟨Ob,Wb ID⟩,?_⟩
 ·refine B (_,_,_,_,_) _ hh fun⟨F,G,H,I,K⟩ e=>?_
  refine dy hC (0,0) ?_
  cbv
  refine aq [((0,0),(0,0)),((3,0),(3,0)),((6,0),(6,0)),((12,0),(78,0))] ?_
  cbv
  all_goals exact J5
 replace hh:=ifF hh Z
 try rw[Z]
 cbv
 obtain⟨IE,hh⟩:=ac hh
 obtain⟨IF,hh⟩:=ac hh
 refine⟨Nb IE,Mb IF,?_⟩
 try refine⟨rfl,?_⟩
 refine gi hC (bU [14] [206] []) mixed [(2139,2)] ?_
 cbv
 refine⟨Ob,?_⟩
 obtain⟨IG,hh⟩:=ac hh
 refine⟨⟨Ob,Ab⟩,?_⟩
 refine⟨⟨Ob,Wb IG⟩,?_⟩
 ·refine B (_,_,_,_,_) _ hh fun⟨F,G,H,I,K⟩ e=>?_
  refine dy hC (0,0) ?_
  cbv
  refine aq [((0,0),(0,0)),((3,0),(3,0)),((6,0),(6,0)),((12,0),(78,0))] ?_
  cbv
  all_goals exact J5
 replace hh:=ifF hh Y
 try rw[Y]
 cbv
 refine bcs (fun ek=>?_) (fun ek=>?_)
 replace hh:=ifT hh ek
 try rw[ek]
 cbv
 refine E7 hC (bU [14] [206] []) mixed [] ?_
 cbv
 obtain⟨IH,hh⟩:=ac hh
 obtain⟨Gm,hh⟩:=ac hh
 try dsimp only at Gm
 refine⟨Nb IH,Mb Gm,?_⟩
 obtain⟨II,IJ,hh⟩:=af hh
 refine⟨[iA II],Gb IJ,?_⟩
 cbv
 obtain⟨IK,hh⟩:=ac hh
 obtain⟨IL,hh⟩:=ac hh
 refine⟨Nb IK,Mb IL,?_⟩
 obtain⟨IM,IO,hh⟩:=af hh
 refine⟨[tA (qGOcc IM)],Gb IO,?_⟩
 cbv
 obtain⟨⟨⟨FT,FW,F4,Fr,⟨Fu,Fx⟩,⟨Fz,FA⟩,FB,F5⟩,FN⟩,IP,hh⟩:=af hh
 try dsimp only at hh
 have fc:=xu hQ IP
 try dsimp only at fc
 refine ag hF fc ?_
 cbv
 refine⟨⟨(⟨[(1,iA p1),(2,iA p2),(3,.mptr (3,0) 1 0 0),(6,.mptr (6,0) 1 0 0),(8,.ref (12,0) 1 0 (len (qLGOcc z))),(9,iA A),(10,.mptr (10,0) 1 0 0),(53,.tup [.agg [iA FT,iA FW,iA F4,.ref (2154,0) 1 0 (len (qInt Fr)),.ref (2154,1) 1 0 (len (qGOcc Fu)),.ref (2154,2) 1 0 (len (qGOcc Fx)),.ref (2154,3) 1 0 (len (qGOcc Fz)),.ref (2154,4) 1 0 (len (qGOcc FA)),.ref (2154,5) 1 0 (len (qGOcc FB)),iA F5],.ref (2154,10) 1 0 (len (qGOcc FN))]),(1000000,.agg [iA p0a,.ref (0,0) 1 0 (len (qGNodeS t)),iA p0c,iA p0d,bA D])],[((0,0),.opn 1 10 (qGNodeS t) (nadd 0 (toNat A)) [iA d,iA j,iA p,hA,hA,hA,hA,hA,hA,iA s]),((3,0),.box 1 [iA p0a,.ref (0,0) 1 0 (len (qGNodeS t)),iA p0c,iA p0d,bA C]),((6,0),.box 1 [iA 0,.lit (.slice none 0 0),iA 0,iA 0,bA false]),((10,0),.box 1 [iA d,iA j,iA p,hA,hA,hA,hA,hA,hA,iA s]),((12,0),.arr 1 1 (qLGOcc z)),((2154,0),.arr 1 1 (qInt Fr)),((2154,1),.arr 1 3 (qGOcc Fu)),((2154,2),.arr 1 3 (qGOcc Fx)),((2154,3),.arr 1 3 (qGOcc Fz)),((2154,4),.arr 1 3 (qGOcc FA)),((2154,5),.arr 1 3 (qGOcc FB)),((2154,10),.arr 1 3 (qGOcc FN))]⟩:St),?_,?_⟩,trivial⟩
 ·refine aq [((0,0),(1000,0)),((3,0),(1003,0)),((6,0),(1006,0)),((10,0),(1010,0)),((12,0),(1012,0)),((2154,0),(154,0)),((2154,1),(154,1)),((2154,2),(154,2)),((2154,3),(154,3)),((2154,4),(154,4)),((2154,5),(154,5)),((2154,10),(154,10))] ?_
  cbv
  all_goals exact Zb
 cbv
 refine bcs (fun EJ=>?_) (fun EJ=>?_)
 replace hh:=ifT hh EJ
 try rw[EJ]
 cbv
 obtain⟨IQ,hh⟩:=ac hh
 obtain⟨IR,hh⟩:=ac hh
 refine⟨Nb IQ,Mb IR,?_⟩
 try refine⟨rfl,?_⟩
 refine gi hC (bU [14] [206] []) mixed [(2154,10)] ?_
 cbv
 refine⟨Ob,?_⟩
 obtain⟨IS,hh⟩:=ac hh
 refine⟨⟨Ob,Ab⟩,?_⟩
 refine⟨⟨Ob,Wb IS⟩,?_⟩
 ·refine B (_,_,_,_,_) _ hh fun⟨F,G,H,I,K⟩ e=>?_
  refine dy hC (0,0) ?_
  cbv
  refine aq [((0,0),(0,0)),((3,0),(3,0)),((6,0),(6,0)),((12,0),(78,0))] ?_
  cbv
  all_goals exact J5
 replace hh:=ifF hh EJ
 try rw[EJ]
 cbv
 obtain⟨IT,hh⟩:=ac hh
 obtain⟨IU,hh⟩:=ac hh
 refine⟨Nb IT,Mb IU,?_⟩
 try refine⟨rfl,?_⟩
 refine gi hC (bU [14] [206] []) mixed [(2154,10)] ?_
 cbv
 refine⟨Ob,?_⟩
 obtain⟨IV,hh⟩:=ac hh
 refine⟨⟨Ob,Ab⟩,?_⟩
 refine⟨⟨Ob,Wb IV⟩,?_⟩
 ·refine B (_,_,_,_,_) _ hh fun⟨F,G,H,I,K⟩ e=>?_
  refine dy hC (0,0) ?_
  cbv
  refine aq [((0,0),(0,0)),((3,0),(3,0)),((6,0),(6,0)),((12,0),(78,0))] ?_
  cbv
  all_goals exact J5
 replace hh:=ifF hh ek
 try rw[ek]
 cbv
 refine⟨⟨(⟨[(1,iA p1),(2,iA p2),(3,.mptr (3,0) 1 0 0),(6,.mptr (6,0) 1 0 0),(8,.ref (12,0) 1 0 (len (qLGOcc z))),(9,iA A),(10,.mptr (10,0) 1 0 0),(53,.tup [.agg [iA d,iA j,iA p,.ref (24,0) 1 0 (len (qInt b)),.ref (24,1) 1 0 (len (qGOcc u)),.ref (24,2) 1 0 (len (qGOcc v)),.ref (24,3) 1 0 (len (qGOcc w)),.ref (24,4) 1 0 (len (qGOcc y)),.ref (24,5) 1 0 (len (qGOcc c)),iA s],.ref (2011,0) 1 0 0]),(1000000,.agg [iA p0a,.ref (0,0) 1 0 (len (qGNodeS t)),iA p0c,iA p0d,bA D])],[((0,0),.opn 1 10 (qGNodeS t) (nadd 0 (toNat A)) [iA d,iA j,iA p,.ref (24,0) 1 0 (len (qInt b)),.ref (24,1) 1 0 (len (qGOcc u)),.ref (24,2) 1 0 (len (qGOcc v)),.ref (24,3) 1 0 (len (qGOcc w)),.ref (24,4) 1 0 (len (qGOcc y)),.ref (24,5) 1 0 (len (qGOcc c)),iA s]),((3,0),.box 1 [iA p0a,.ref (0,0) 1 0 (len (qGNodeS t)),iA p0c,iA p0d,bA C]),((6,0),.box 1 [iA 0,.lit (.slice none 0 0),iA 0,iA 0,bA false]),((10,0),.box 1 [iA d,iA j,iA p,.ref (24,0) 1 0 (len (qInt b)),.ref (24,1) 1 0 (len (qGOcc u)),.ref (24,2) 1 0 (len (qGOcc v)),.ref (24,3) 1 0 (len (qGOcc w)),.ref (24,4) 1 0 (len (qGOcc y)),.ref (24,5) 1 0 (len (qGOcc c)),iA s]),((12,0),.arr 1 1 (qLGOcc z)),((24,0),.arr 1 1 (qInt b)),((24,1),.arr 1 3 (qGOcc u)),((24,2),.arr 1 3 (qGOcc v)),((24,3),.arr 1 3 (qGOcc w)),((24,4),.arr 1 3 (qGOcc y)),((24,5),.arr 1 3 (qGOcc c)),((2011,0),.farr 1 3 (qGOcc ([]:List GOcc)))]⟩:St),?_,?_⟩,trivial⟩
 ·refine aq [((0,0),(1000,0)),((3,0),(1003,0)),((6,0),(1006,0)),((10,0),(1010,0)),((12,0),(1012,0)),((24,0),(1024,0)),((24,1),(1024,1)),((24,2),(1024,2)),((24,3),(1024,3)),((24,4),(1024,4)),((24,5),(1024,5)),((2011,0),(11,0))] ?_
  cbv
  all_goals exact Zb
 cbv
 refine bcs (fun E2=>?_) (fun E2=>?_)
 replace hh:=ifT hh E2
 try rw[E2]
 cbv
 obtain⟨IW,hh⟩:=ac hh
 obtain⟨IX,hh⟩:=ac hh
 refine⟨Nb IW,Mb IX,?_⟩
 try refine⟨rfl,?_⟩
 refine gi hC (bU [14] [206] []) mixed [] ?_
 cbv
 refine⟨Ob,?_⟩
 obtain⟨IY,hh⟩:=ac hh
 refine⟨⟨Ob,Ab⟩,?_⟩
 refine⟨⟨Ob,Wb IY⟩,?_⟩
 ·refine B (_,_,_,_,_) _ hh fun⟨F,G,H,I,K⟩ e=>?_
  refine dy hC (0,0) ?_
  cbv
  refine aq [((0,0),(0,0)),((3,0),(3,0)),((6,0),(6,0)),((12,0),(78,0))] ?_
  cbv
  all_goals exact J5
 replace hh:=ifF hh E2
 try rw[E2]
 cbv
 obtain⟨IZ,hh⟩:=ac hh
 obtain⟨I0,hh⟩:=ac hh
 refine⟨Nb IZ,Mb I0,?_⟩
 try refine⟨rfl,?_⟩
 refine gi hC (bU [14] [206] []) mixed [] ?_
 cbv
 refine⟨Ob,?_⟩
 obtain⟨I1,hh⟩:=ac hh
 refine⟨⟨Ob,Ab⟩,?_⟩
 refine⟨⟨Ob,Wb I1⟩,?_⟩
 ·refine B (_,_,_,_,_) _ hh fun⟨F,G,H,I,K⟩ e=>?_
  refine dy hC (0,0) ?_
  cbv
  refine aq [((0,0),(0,0)),((3,0),(3,0)),((6,0),(6,0)),((12,0),(78,0))] ?_
  cbv
  all_goals exact J5
 replace hh:=ifF hh L
 try rw[L]
 cbv
 ·refine I4 (_,_,_,_) _ hh fun⟨F,G,H,I⟩ e=>?_
  refine ai ?_
  cbv
  all_goals exact J4

theorem w9 {k:Nat} {p0:GGraph} {p1:GEv} {r:GGraph×(List GOcc)} (hh:dm.f k p0 p1=some r):ak P 98 [.agg [iA p0.Mode,oA 10 (qGNodeS p0.Nodes),iA p0.Seen,iA p0.Now,bA p0.Full],.agg [iA p1.Sym,iA p1.At,iA p1.Val]] [hA,hA] (.tup [.agg [iA r.1.Mode,oA 10 (qGNodeS r.1.Nodes),iA r.1.Seen,iA r.1.Now,bA r.1.Full],oA 3 (qGOcc r.2)]):=by
 obtain⟨p0a,p0b,p0c,p0d,p0e⟩:=p0
 obtain⟨p1a,p1b,p1c⟩:=p1
 unfold dm.f at hh
 refine go (ts:=[(4,some 91),(5,none)]) (rm:=[.own,.own]) (pm:=[.skip,.skip]) Tryz.func98 ?_
 unhygienic intros
 cbv
 obtain⟨o1,T,U⟩:=af hh
 refine ay hC eok mixed (fun n (i:Int×(List GNode)×Int×Int×Bool×(List GOcc)×Bool)=>dm.l0 k (⟨p1a,p1b,p1c⟩:GEv) n i.1 i.2.1 i.2.2.1 i.2.2.2.1 i.2.2.2.2.1 i.2.2.2.2.2.1 i.2.2.2.2.2.2)
  (fun⟨z,s,A,B,o,t,C⟩=>(⟨[(2,.mptr (2,0) 1 0 0),(3,.mptr (3,0) 1 0 0),(4,.mptr (4,0) 1 0 0),(6,.ref (11,0) 1 0 (len (qGOcc t))),(1000000,.agg [iA p0a,hA,iA p0c,iA p0d,bA C])],[((0,0),.arr 1 10 (qGNodeS s)),((2,0),.box 1 [iA z,.ref (0,0) 1 0 (len (qGNodeS s)),iA A,iA B,bA o]),((3,0),.box 1 [iA p1a,iA p1b,iA p1c]),((4,0),.box 1 [iA 0,.lit (.slice none 0 0),iA 0,iA 0,bA false]),((11,0),.arr 1 3 (qGOcc t))]⟩:St))
  (fun(⟨D,u,F,G,p,v,H⟩:Int×(List GNode)×Int×Int×Bool×(List GOcc)×Bool)=>(⟨[(2,.mptr (2,0) 1 0 0),(3,.mptr (3,0) 1 0 0),(4,.mptr (4,0) 1 0 0),(6,.ref (11,0) 1 0 (len (qGOcc v))),(1000000,.agg [iA p0a,hA,iA p0c,iA p0d,bA H])],[((0,0),.arr 1 10 (qGNodeS u)),((2,0),.box 1 [iA D,.ref (0,0) 1 0 (len (qGNodeS u)),iA F,iA G,bA p]),((3,0),.box 1 [iA p1a,iA p1b,iA p1c]),((4,0),.box 1 [iA 0,.lit (.slice none 0 0),iA 0,iA 0,bA false]),((11,0),.arr 1 3 (qGOcc v))]⟩:St)) (fun x=>x) (.exit 0)
  (i0:=(_,_,_,_,_,_,_)) T (fun _=>rfl) ?_ ?_ ?_
 ·rintro⟨L,M,N,O,Q,R,S⟩ e
  refine ai ?_
  cbv
  all_goals exact J7
 rintro⟨D,u,F,G,p,v,H⟩ hx
 subst o1
 have hh:=U
 cbv
 replace hh:=aG hh
 rcases hh with⟨w,hh⟩|⟨w,hh⟩
 have b:p=true:=Tb w
 have g:=b;cbv at g;try rw[b]
 try rw[g]
 cbv
 refine⟨10,?_⟩
 cbv
 exact Eb
 have b:p=false:=Fb w
 have g:=b;cbv at g;try rw[b]
 try rw[g]
 cbv
 obtain⟨⟨⟨V,W,X,Y,Z⟩,Fq⟩,ek,hh⟩:=af hh
 try dsimp only at hh
 have fc:=qi hQ ek
 try dsimp only at fc
 refine ag hF fc ?_
 cbv
 obtain⟨I,hh⟩:=ac hh
 try dsimp only at I
 refine⟨⟨Ab,Ab⟩,?_⟩
 refine⟨⟨Ob,Wb I⟩,?_⟩
 refine bcs (fun c=>?_) (fun c=>?_)
 replace hh:=ifT hh c
 try rw[c]
 cbv
 refine⟨10,?_⟩
 cbv
 exact Eb
 replace hh:=ifF hh c
 try rw[c]
 cbv
 exact Eb
 rintro n ⟨z,s,A,B,o,t,C⟩ N1 D1 hh EJ J Fx
 try dsimp only at hh
 unfold dm.l0 at hh
 cbv
 replace hh:=aG hh
 rcases hh with⟨y,hh⟩|⟨y,hh⟩
 have d:o=true:=Tb y
 have g:=d;cbv at g;try rw[d]
 try rw[g]
 cbv
 ·refine J (_,_,_,_,_,_,_) _ hh fun⟨L,M,N,O,Q,R,S⟩ e=>?_
  refine ai ?_
  cbv
  all_goals exact J7
 have d:o=false:=Fb y
 have g:=d;cbv at g;try rw[d]
 try rw[g]
 cbv
 obtain⟨Fz,E2,hh⟩:=af hh
 have fc:=kJ hQ E2
 try dsimp only at fc
 refine ag hF fc ?_
 cbv
 refine bcs (fun j=>?_) (fun j=>?_)
 replace hh:=ifT hh j
 try rw[j]
 cbv
 obtain⟨FA,E3,hh⟩:=af hh
 have fc:=kJ hQ E3
 try dsimp only at fc
 refine ag hF fc ?_
 cbv
 obtain⟨⟨⟨Ff,Fj,Fk,Fm,Fo⟩,Fr⟩,Fp,hh⟩:=af hh
 try dsimp only at hh
 have fc:=qi hQ Fp
 try dsimp only at fc
 refine ag hF fc ?_
 cbv
 obtain⟨K,hh⟩:=ac hh
 try dsimp only at K
 refine⟨⟨Ab,Ab⟩,?_⟩
 refine⟨⟨Ob,Wb K⟩,?_⟩
 ·refine EJ (_,_,_,_,_,_,_) _ hh fun⟨L,M,N,O,Q,R,S⟩ e=>?_
  refine aq [((0,0),(30,0)),((2,0),(2,0)),((3,0),(3,0)),((4,0),(4,0)),((11,0),(36,0))] ?_
  cbv
  all_goals exact J7
 replace hh:=ifF hh j
 try rw[j]
 cbv
 ·refine J (_,_,_,_,_,_,_) _ hh fun⟨L,M,N,O,Q,R,S⟩ e=>?_
  refine ai ?_
  cbv
  all_goals exact J7

theorem uX {k:Nat} {p0:GEx} {p1:Int} {p2:List GEv} {r:(List GOcc)×Bool} (hh:cF.f k p0 p1 p2=some r):ak P 42 [.agg [iA p0.Kind,iA p0.Sym,iA p0.N,tA (qGEx p0.Kids)],iA p1,tA (qGEv p2)] [hA,hA,hA] (.tup [oA 3 (qGOccO r.1),bA r.2]):=by
 obtain⟨p0a,p0b,p0c,p0d⟩:=p0
 unfold cF.f at hh
 refine go (ts:=[(6,none),(7,none)]) (rm:=[.own,.own]) (pm:=[.skip,.skip,.skip]) Tryz.func42 ?_
 unhygienic intros
 cbv
 obtain⟨K,h1,hh⟩:=af hh
 refine ag hF (oq hQ h1) ?_
 cbv
 replace hh:=aG hh
 rcases hh with⟨F,hh⟩|⟨F,hh⟩
 have o:K=true:=Tb F
 have g:=o;cbv at g;try rw[o]
 try rw[g]
 cbv
 obtain⟨L,h6,hh⟩:=af hh
 refine ag hF (qg hQ h6) ?_
 cbv
 replace hh:=aG hh
 rcases hh with⟨G,hh⟩|⟨G,hh⟩
 have b:L=true:=Tb G
 have g:=b;cbv at g;try rw[b]
 try rw[g]
 cbv
 obtain⟨v,M,hh⟩:=af hh
 refine ag hF (zx hQ M) ?_
 cbv
 replace hh:=aG hh
 rcases hh with⟨p,hh⟩|⟨p,hh⟩
 have c:v=true:=Tb p
 have g:=c;cbv at g;try rw[c]
 try rw[g]
 cbv
 obtain⟨⟨Fm,Fo,Fp,Fq,Fr⟩,O,hh⟩:=af hh
 try dsimp only at hh
 have fc:=vz hQ O
 try dsimp only at fc
 refine ag hF fc ?_
 cbv
 obtain⟨o1,Q,w⟩:=af hh
 refine ay hC eok mixed (fun n (i:(List GOcc)×Int×(List GNode)×Int×Int×Bool×Int)=>cF.l0 k p2 n i.1 i.2.1 i.2.2.1 i.2.2.2.1 i.2.2.2.2.1 i.2.2.2.2.2.1 i.2.2.2.2.2.2)
  (fun⟨s,y,t,z,A,B,C⟩=>(⟨[(2,tA (qGEv p2)),(8,.ref (13,0) 1 0 (len (qGOcc s))),(9,.mptr (9,0) 1 0 0),(10,iA C)],[((9,0),.box 1 [iA y,.ref (30,0) 1 0 (len (qGNodeS t)),iA z,iA A,bA B]),((13,0),.arr 1 3 (qGOcc s)),((30,0),.arr 1 10 (qGNodeS t))]⟩:St))
  (fun(u:List GOcc)=>(⟨[(8,.ref (13,0) 1 0 (len (qGOcc u)))],[((13,0),.arr 1 3 (qGOcc u))]⟩:St)) .ok (.exit 0)
  (i0:=(_,_,_,_,_,_,_)) Q (fun _=>rfl) ?_ ?_ ?_
 ·rintro⟨R,t1,t2,t3,t4,t5,t6⟩ e
  refine ai ?_
  cbv
  all_goals exact J7
 rintro u hx
 subst o1
 have hh:=w
 cbv
 obtain⟨FI,S,hh⟩:=af hh
 refine ag hF (sg hQ S) ?_
 cbv
 exact Eb
 rintro n ⟨s,y,t,z,A,B,C⟩ N1 D1 hh T U V
 try dsimp only at hh
 unfold cF.l0 at hh
 cbv
 refine bcs (fun d=>?_) (fun d=>?_)
 replace hh:=ifT hh d
 try rw[d]
 cbv
 obtain⟨W,hh⟩:=ac hh
 obtain⟨⟨H,I,J⟩,X,hh⟩:=af hh
 try dsimp only at hh
 refine⟨[iA H,iA I,iA J],Nb W,Gb X,?_⟩
 cbv
 obtain⟨⟨⟨Y,Z,ek,EJ,E2⟩,Ff⟩,E3,hh⟩:=af hh
 try dsimp only at hh
 have fc:=w9 hQ E3
 try dsimp only at fc
 refine ag hF fc ?_
 cbv
 refine bcs (fun j=>?_) (fun j=>?_)
 replace hh:=ifT hh j
 try rw[j]
 cbv
 cases hh
 have hh:some _=some _:=w
 refine V _ _ ?_
 cbv
 exact Eb
 replace hh:=ifF hh j
 try rw[j]
 cbv
 obtain⟨D,hh⟩:=ac hh
 try dsimp only at D
 refine⟨⟨Ob,Ab,Ab⟩,?_⟩
 refine⟨⟨Ob,Wb D⟩,?_⟩
 ·refine T (_,_,_,_,_,_,_) _ hh fun⟨R,t1,t2,t3,t4,t5,t6⟩ e=>?_
  refine aq [((9,0),(9,0)),((13,0),(52,0)),((30,0),(43,0))] ?_
  cbv
  all_goals exact J7
 replace hh:=ifF hh d
 try rw[d]
 cbv
 ·refine U _ _ hh fun R e=>?_
  refine ai ?_
  cbv
  all_goals exact J1
 have c:v=false:=Fb p
 have g:=c;cbv at g;try rw[c]
 try rw[g]
 cbv
 exact Eb
 have b:L=false:=Fb G
 have g:=b;cbv at g;try rw[b]
 try rw[g]
 cbv
 exact Eb
 have o:K=false:=Fb F
 have g:=o;cbv at g;try rw[o]
 try rw[g]
 cbv
 exact Eb
theorem pq {k:Nat} {p0:GEx} {p1:Int} {p2:List GEv} {r:(List GOcc)×Bool} (hh:cF.f k p0 p1 p2=some r):ak P 42 [.agg [iA p0.Kind,iA p0.Sym,iA p0.N,oA 4 (qGExO p0.Kids)],iA p1,oA 3 (qGEv p2)] [.agg [iA p0.Kind,iA p0.Sym,iA p0.N,oA 4 (qGExO p0.Kids)],hA,oA 3 (qGEv p2)] (.tup [oA 3 (qGOccO r.1),bA r.2]):=by
  cases hQ;exact(uX .mk hh).lend (by simp[Vm.ownd,gm, -jG,kG]) (.lend (by simp) (.same rfl (.lend (congrArg A.tree (pX _).symm) .nil)))

theorem se {k:Nat} {p0:GOcc} {p1:GOcc} {r:Bool} (hh:fm.f k p0 p1=some r):ak P 69 [.agg [iA p0.From,iA p0.To,tA (qInt p0.Ids)],.agg [iA p1.From,iA p1.To,tA (qInt p1.Ids)]] [hA,hA] (bA r):=by
 obtain⟨p0a,p0b,p0c⟩:=p0
 obtain⟨p1a,p1b,p1c⟩:=p1
 unfold fm.f at hh
 refine go (ts:=[(4,none)]) (rm:=[.own]) (pm:=[.skip,.skip]) Tryz.func69 ?_
 unhygienic intros
 cbv
 obtain⟨c,b,hh⟩:=af hh
 refine ag hF (ju hQ b) ?_
 cbv
 exact Eb

theorem iM {k:Nat} {g2:GOcc→GOcc→Option Bool} (hg2:∀{y0:GOcc} {y1:GOcc} {r:Bool},g2 y0 y1=some r→ak P 69 [.agg [iA y0.From,iA y0.To,tA (qInt y0.Ids)],.agg [iA y1.From,iA y1.To,tA (qInt y1.Ids)]] [hA,hA] (bA r)) {p0:List GOcc} {p1:List GOcc} {r:Bool} (hh:bF.f g2 k p0 p1=some r):ak P 68 [tA (qGOcc p0),tA (qGOcc p1),.clo 69 []] [hA,hA,hA] (bA r):=by
 unfold bF.f at hh
 refine go (ts:=[(6,none)]) (rm:=[.own]) (pm:=[.skip,.skip,.skip]) Tryz.func68 ?_
 unhygienic intros
 cbv
 replace hh:=aG hh
 rcases hh with⟨t,hh⟩|⟨t,hh⟩
 have d:(eq (cast (len (qGOcc p0))) (cast (len (qGOcc p1))))=true:=Tb t
 have g:=d;cbv at g;try rw[d]
 try rw[g]
 cbv
 obtain⟨L,B,o⟩:=af hh
 refine ay hC eok mixed (bF.l0 k g2 p0 p1)
  (fun p=>(⟨[(1,tA (qGOcc p1)),(2,.clo 69 []),(15,tA (qGOcc p0)),(16,iA (cast (len (qGOcc p0)))),(17,iA p)],[]⟩:St))
  (fun(_:Unit)=>(⟨[],[]⟩:St)) .ok (.exit 0)
  (i0:=_) B (fun _=>rfl) ?_ ?_ ?_
 ·rintro M e
  refine ai ?_
  cbv
  all_goals exact J1
 rintro _ hx
 subst L
 have hh:=o
 cbv
 exact Eb
 rintro n p N O hh C D F
 unfold bF.l0 at hh
 cbv
 refine bcs (fun b=>?_) (fun b=>?_)
 replace hh:=ifT hh b
 try rw[b]
 cbv
 obtain⟨G,hh⟩:=ac hh
 obtain⟨⟨u,v,w⟩,H,hh⟩:=af hh
 try dsimp only at hh
 refine⟨[iA u,iA v,tA (qInt w)],Nb G,Gb H,?_⟩
 cbv
 obtain⟨I,hh⟩:=ac hh
 obtain⟨⟨y,z,A⟩,J,hh⟩:=af hh
 try dsimp only at hh
 refine⟨[iA y,iA z,tA (qInt A)],Nb I,Gb J,?_⟩
 cbv
 obtain⟨s,K,hh⟩:=af hh
 refine ag hF (hg2 K) ?_
 cbv
 replace hh:=aG hh
 rcases hh with⟨j,hh⟩|⟨j,hh⟩
 have c:s=true:=Tb j
 have g:=c;cbv at g;try rw[c]
 try rw[g]
 cbv
 ·refine C _ _ hh fun M e=>?_
  refine ai ?_
  cbv
  all_goals exact J1
 have c:s=false:=Fb j
 have g:=c;cbv at g;try rw[c]
 try rw[g]
 cbv
 cases hh
 have hh:some _=some _:=o
 refine F _ _ ?_
 cbv
 exact Eb
 replace hh:=ifF hh b
 try rw[b]
 cbv
 ·refine D () _ hh fun _ e=>?_
  refine ai ?_
  cbv
  all_goals exact J0
 have d:(eq (cast (len (qGOcc p0))) (cast (len (qGOcc p1))))=false:=Fb t
 have g:=d;cbv at g;try rw[d]
 try rw[g]
 cbv
 exact Eb

theorem tN {k:Nat} {p0:List GOcc} {p1:List GOcc} {r:Bool} (hh:dU.f k p0 p1=some r):ak P 26 [tA (qGOcc p0),tA (qGOcc p1)] [hA,hA] (bA r):=by
 unfold dU.f at hh
 refine go (ts:=[(4,none)]) (rm:=[.own]) (pm:=[.skip,.skip]) Tryz.func26 ?_
 unhygienic intros
 cbv
 obtain⟨c,b,hh⟩:=af hh
 refine ag hF (iM hQ (g2:=fun y0 y1=>fm.f k y0 y1) (fun h=>se hQ h) b) ?_
 cbv
 exact Eb
theorem fD {k:Nat} {p0:List GOcc} {p1:List GOcc} {r:Bool} (hh:dU.f k p0 p1=some r):ak P 26 [oA 3 (qGOccO p0),oA 3 (qGOccO p1)] [oA 3 (qGOccO p0),oA 3 (qGOccO p1)] (bA r):=by
  cases hQ;exact(tN .mk hh).lend (rfl) (.lend (congrArg A.tree (pB _).symm) (.lend (congrArg A.tree (pB _).symm) .nil))

theorem ve {k:Nat} {p0:List Int} {r:Bool} (hh:iQ.f k p0=some r):ak P 7 [tA (qIu8 p0)] [hA] (bA r):=by
 unfold iQ.f at hh
 refine go (ts:=[(2,none)]) (rm:=[.own]) (pm:=[.skip]) Tryz.func7 ?_
 unhygienic intros
 cbv
 refine bcs (fun v=>?_) (fun v=>?_)
 replace hh:=ifT hh v
 try rw[v]
 cbv
 exact Eb
 replace hh:=ifF hh v
 try rw[v]
 cbv
 obtain⟨⟨⟨J,K,L,M⟩,Q,R⟩,S,hh⟩:=af hh
 try dsimp only at hh
 have fc:=qn hQ S
 try dsimp only at fc
 refine ag hF fc ?_
 cbv
 obtain⟨⟨T,w⟩,U,hh⟩:=af hh
 try dsimp only at hh
 have fc:=pc hQ U
 try dsimp only at fc
 refine ag hF fc ?_
 cbv
 obtain⟨⟨N,b⟩,V,hh⟩:=af hh
 try dsimp only at hh
 have fc:=qt hQ V
 try dsimp only at fc
 refine ag hF fc ?_
 cbv
 obtain⟨⟨O,c⟩,D,hh⟩:=af hh
 try dsimp only at hh
 have fc:=pq hQ D
 try dsimp only at fc
 refine ag hF fc ?_
 cbv
 replace hh:=aG hh
 rcases hh with⟨y,hh⟩|⟨y,hh⟩
 have d:w=true:=Tb y
 have g:=d;cbv at g;try rw[d]
 try rw[g]
 cbv
 replace hh:=aG hh
 rcases hh with⟨z,hh⟩|⟨z,hh⟩
 have j:c=true:=Tb z
 have g:=j;cbv at g;try rw[j]
 try rw[g]
 cbv
 replace hh:=aG hh
 rcases hh with⟨A,hh⟩|⟨A,hh⟩
 have o:b=true:=Tb A
 have g:=o;cbv at g;try rw[o]
 try rw[g]
 cbv
 obtain⟨W,F,hh⟩:=af hh
 refine ag hF (fD hQ F) ?_
 cbv
 refine bcs (fun p=>?_) (fun p=>?_)
 replace hh:=ifT hh p
 try rw[p]
 cbv
 obtain⟨X,G,hh⟩:=af hh
 refine ag hF (fD hQ G) ?_
 cbv
 exact Eb
 replace hh:=ifF hh p
 try rw[p]
 cbv
 exact Eb
 have o:b=false:=Fb A
 have g:=o;cbv at g;try rw[o]
 try rw[g]
 cbv
 exact Eb
 have j:c=false:=Fb z
 have g:=j;cbv at g;try rw[j]
 try rw[g]
 cbv
 exact Eb
 have d:w=false:=Fb y
 have g:=d;cbv at g;try rw[d]
 try rw[g]
 cbv
 replace hh:=aG hh
 rcases hh with⟨B,hh⟩|⟨B,hh⟩
 have s:c=true:=Tb B
 have g:=s;cbv at g;try rw[s]
 try rw[g]
 cbv
 exact Eb
 have s:c=false:=Fb B
 have g:=s;cbv at g;try rw[s]
 try rw[g]
 cbv
 replace hh:=aG hh
 rcases hh with⟨C,hh⟩|⟨C,hh⟩
 have t:b=true:=Tb C
 have g:=t;cbv at g;try rw[t]
 try rw[g]
 cbv
 exact Eb
 have t:b=false:=Fb C
 have g:=t;cbv at g;try rw[t]
 try rw[g]
 cbv
 obtain⟨Y,H,hh⟩:=af hh
 refine ag hF (fD hQ H) ?_
 cbv
 refine bcs (fun u=>?_) (fun u=>?_)
 replace hh:=ifT hh u
 try rw[u]
 cbv
 obtain⟨Z,I,hh⟩:=af hh
 refine ag hF (fD hQ I) ?_
 cbv
 exact Eb
 replace hh:=ifF hh u
 try rw[u]
 cbv
 exact Eb

end Go.Proofs.YtlbnmldopjadoaaGreat
