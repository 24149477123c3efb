/- The functions of this program do what the plain ones do. -/
import Derived.Test.YtlbnmldopjadoaaGreatC13
namespace Go.Proofs.YtlbnmldopjadoaaGreat
open Go Go.Vm
set_option linter.unusedVariables false
set_option maxHeartbeats 4000000
set_option maxRecDepth 4000
variable {qIu8:Vm.RW Int} {qGEx:Vm.RW GEx} {qGRule:Vm.RW GRule} {qStr:Vm.RW ByteArray} {qInt:Vm.RW Int} {qGExO:Vm.RW GEx} {qGOcc:Vm.RW GOcc} {qGNode:Vm.RW GNode} {qGNodeS:Vm.RW GNode} {qGGraphS2:Vm.RW GGraph} {qGGraph:Vm.RW GGraph} {qGEv:Vm.RW GEv} {qGFire:Vm.RW GFire} {qGOccO:Vm.RW GOcc} {qLGOcc:Vm.RW (List GOcc)} {qBool:Vm.RW Bool} {qGGraphS:Vm.RW GGraph} {qLInt:Vm.RW (List Int)} (hQ:EQ qIu8 qGEx qGRule qStr qInt qGExO qGOcc qGNode qGNodeS qGGraphS2 qGGraph qGEv qGFire qGOccO qLGOcc qBool qGGraphS qLInt)
include hQ
theorem rk {k:Nat} {p0:GGraph} {p1:Int} {p2:GEv} {r:(List GOcc)×GGraph×GEv} (hh:am.f k p0 p1 p2=some r):ah P 130 [.obox [iA p0.Mode,oA 10 (qGNode p0.Nodes),iA p0.Seen,iA p0.Now,bA p0.Full],iA p1,.obox [iA p2.Sym,iA p2.At,iA p2.Val]] [.obox [iA r.2.1.Mode,oA 10 (qGNode r.2.1.Nodes),iA r.2.1.Seen,iA r.2.1.Now,bA r.2.1.Full],hA,.obox [iA r.2.2.Sym,iA r.2.2.At,iA r.2.2.Val]] (tA (qGOcc r.1)):=by
 obtain⟨p0a,p0b,p0c,p0d,p0e⟩:=p0
 obtain⟨p2a,p2b,p2c⟩:=p2
 unfold am.f at hh
 refine gq [] [185] [216] [(6,none)] [.val] [.own,.skip,.own] Tryz.func130 ?_
 unhygienic intros
 cbv
 obtain⟨o1,Le,hq1⟩:=ag hh
 refine lgq [] [185] [216] hC (U4 (am.l1 k (⟨p0a,p0b,p0c,p0d,p0e⟩:GGraph) p1 (⟨p2a,p2b,p2c⟩:GEv)))
  (fun⟨A,B,z,y⟩=>⟨[(0,mA (0,0)),(1,iA p1),(2,mA (2,0)),(7,rA (7,50) (len (qLGOcc z))),(15,iA (cast (len (qGNode p0b)))),(16,iA y),(1000000,mA (0,0)),(1000002,mA (2,0))],[((0,0),.box 1 [iA p0a,rA (14,0) (len (qGNode A)),iA p0c,iA p0d,bA B]),((2,0),.box 1 [iA p2a,iA p2b,iA p2c]),((7,50),.arr 1 1 (qLGOcc z)),((14,0),.arr 1 10 (qGNode A))]⟩)
  (fun⟨II,IJ,Jc⟩=>⟨[(7,rA (7,50) (len (qLGOcc II))),(1000000,mA (0,0)),(1000002,mA (2,0))],[((0,0),.box 1 [iA p0a,rA (14,0) (len (qGNode IJ)),iA p0c,iA p0d,bA Jc]),((2,0),.box 1 [iA p2a,iA p2b,iA p2c]),((7,50),.arr 1 1 (qLGOcc II)),((14,0),.arr 1 10 (qGNode IJ))]⟩) (fun x=>x) (.exit 0)
  (i0:=(_,_,_,_)) Le (fun⟨t0,t1,t2,t3⟩ e=>kA) ?_ ?_
 rintro⟨II,IJ,Jc⟩ hx
 subst o1
 have hh:=hq1
 cbv
 obtain⟨Lr,hh⟩:=ae hh
 exact D
 rintro n ⟨A,B,z,y⟩ N1 D1 hh hN1 hD1 hQ1
 dsimp only[U4] at hh
 unfold am.l1 at hh
 cbv
 refine bcs (fun M=>?_) (fun M=>?_)
 replace hh:=ifT hh M
 try rw[M]
 cbv
 obtain⟨Jx,hh⟩:=ae hh
 obtain⟨Jy,hh⟩:=ae hh
 refine⟨Nb Jx,Mb Jy,?_⟩
 refine AO hC (bH [] [185] [216]) mixed (ts:=[(10,none)]) ⟨[(0,.mptr (1014,0) 1 (nadd 0 (toNat y)) 0),(1,mA (1000,0)),(2,iA p1),(3,mA (1002,0)),(4,rA (1007,50) (len (qLGOcc z))),(2000000,mA (1000,0)),(2000001,iA p1),(2000002,mA (1002,0)),(2000007,rA (1007,50) (len (qLGOcc z))),(2000009,.mptr (1014,0) 1 (nadd 0 (toNat y)) 0),(2000015,iA (cast (len (qGNode p0b)))),(2000016,iA y),(3000000,mA (1000,0)),(3000002,mA (1002,0))],[((1000,0),.box 1 [iA p0a,rA (1014,0) (len (qGNode A)),iA p0c,iA p0d,bA B]),((1002,0),.box 1 [iA p2a,iA p2b,iA p2c]),((1007,50),.arr 1 1 (qLGOcc z)),((1014,0),.arr 1 10 (qGNode A))]⟩ Tryz.func185 (by kernel_rfl) (by kernel_rfl) ?_ ?_
 ·refine bm [((1000,0),(0,0)),((1002,0),(2,0)),((1007,50),(7,50)),((1014,0),(14,0))] ?_
  cbv
  all_goals exact Zb
 cbv
 obtain⟨⟨c,d,j,o,⟨t,u⟩,⟨v,w⟩,s,p⟩,b,hh⟩:=ag hh
 try dsimp only at hh
 refine⟨_,Gk (aM qInt qGOcc) b,?_⟩
 cbv
 refine bcs (fun O=>?_) (fun O=>?_)
 replace hh:=ifT hh O
 try rw[O]
 cbv
 refine⟨_,Gk (aM qInt qGOcc) b,?_⟩
 cbv
 refine bcs (fun Q=>?_) (fun Q=>?_)
 replace hh:=ifT hh Q
 try rw[Q]
 cbv
 refine⟨Ob,?_⟩
 refine⟨⟨⟨[(0,mA (0,0)),(1,iA p1),(2,mA (2,0)),(7,rA (7,50) (len (qLGOcc z))),(9,.mptr (14,0) 1 (nadd 0 (toNat y)) 0),(15,iA (cast (len (qGNode p0b)))),(16,iA y),(30,rA (2080,0) 1),(1000000,mA (0,0)),(1000002,mA (2,0))],[((0,0),.box 1 [iA p0a,rA (14,0) (len (qGNode A)),iA p0c,iA p0d,bA B]),((2,0),.box 1 [iA p2a,iA p2b,iA p2c]),((7,50),.arr 1 1 (qLGOcc z)),((14,0),.arr 1 10 (qGNode A)),((2080,0),.farr 1 3 (qGOcc [((⟨p1,p1,[p0c]⟩:GOcc))]))]⟩,?_,?_⟩,trivial⟩
 ·refine bm [((0,0),(1000,0)),((2,0),(1002,0)),((7,50),(1007,50)),((14,0),(1014,0)),((2080,0),(80,0))] ?_
  cbv
  all_goals exact Zb
 cbv
 refine⟨Ob,?_⟩
 obtain⟨JA,hh⟩:=ae hh
 refine⟨⟨Ob,Ab⟩,?_⟩
 refine⟨⟨Ob,Wb JA⟩,?_⟩
 refine⟨_,Gk (aM qInt qGOcc) b,?_⟩
 cbv
 refine⟨[iA c,iA d,iA j,tA (qInt o),tA (qGOcc t),tA (qGOcc u),tA (qGOcc v),tA (qGOcc w),tA (qGOcc s),iA p],Gb b,?_⟩
 cbv
 refine bcs (fun R=>?_) (fun R=>?_)
 replace hh:=ifT hh R
 try rw[R]
 cbv
 exact hN1 (_,_,_,_) _ hh fun⟨t0,t1,t2,t3⟩ e=>kA
 replace hh:=ifF hh R
 try rw[R]
 cbv
 refine⟨[iA c,iA d,iA j,tA (qInt o),tA (qGOcc t),tA (qGOcc u),tA (qGOcc v),tA (qGOcc w),tA (qGOcc s),iA (wrap .i64 (add p (cast 1)))],Gb2 b ((List.getElem?_eq_some_iff.1 b).1),?_⟩
 cbv
 exact hN1 (_,_,_,_) _ hh fun⟨t0,t1,t2,t3⟩ e=>kA
 replace hh:=ifF hh Q
 try rw[Q]
 cbv
 refine⟨⟨⟨[(0,mA (0,0)),(1,iA p1),(2,mA (2,0)),(7,rA (7,50) (len (qLGOcc z))),(9,.mptr (14,0) 1 (nadd 0 (toNat y)) 0),(15,iA (cast (len (qGNode p0b)))),(16,iA y),(30,zA),(1000000,mA (0,0)),(1000002,mA (2,0))],[((0,0),.box 1 [iA p0a,rA (14,0) (len (qGNode A)),iA p0c,iA p0d,bA B]),((2,0),.box 1 [iA p2a,iA p2b,iA p2c]),((7,50),.arr 1 1 (qLGOcc z)),((14,0),.arr 1 10 (qGNode A))]⟩,?_,?_⟩,trivial⟩
 ·refine bm [((0,0),(1000,0)),((2,0),(1002,0)),((7,50),(1007,50)),((14,0),(1014,0))] ?_
  cbv
  all_goals exact Zb
 cbv
 refine⟨none,?_⟩;try cbv
 obtain⟨JB,hh⟩:=ae hh
 refine⟨⟨Ob,Ab⟩,?_⟩
 refine⟨⟨Ob,Wb JB⟩,?_⟩
 refine⟨_,Gk (aM qInt qGOcc) b,?_⟩
 cbv
 refine⟨[iA c,iA d,iA j,tA (qInt o),tA (qGOcc t),tA (qGOcc u),tA (qGOcc v),tA (qGOcc w),tA (qGOcc s),iA p],Gb b,?_⟩
 cbv
 refine bcs (fun T=>?_) (fun T=>?_)
 replace hh:=ifT hh T
 try rw[T]
 cbv
 exact hN1 (_,_,_,_) _ hh fun⟨t0,t1,t2,t3⟩ e=>kA
 replace hh:=ifF hh T
 try rw[T]
 cbv
 refine⟨[iA c,iA d,iA j,tA (qInt o),tA (qGOcc t),tA (qGOcc u),tA (qGOcc v),tA (qGOcc w),tA (qGOcc s),iA (wrap .i64 (add p 0))],Gb2 b ((List.getElem?_eq_some_iff.1 b).1),?_⟩
 cbv
 exact hN1 (_,_,_,_) _ hh fun⟨t0,t1,t2,t3⟩ e=>kA
 replace hh:=ifF hh O
 try rw[O]
 cbv
 refine bcs (fun U=>?_) (fun U=>?_)
 replace hh:=ifT hh U
 try rw[U]
 cbv
 obtain⟨JC,hh⟩:=ae hh
 obtain⟨JD,JE,hh⟩:=ag hh
 obtain⟨JF,hh⟩:=ae hh
 obtain⟨JG,hh⟩:=ae hh
 obtain⟨Jd,JH,hh⟩:=ag hh
 refine⟨[(5,0),(9,0),(1007,50),(1014,0)],?_⟩
 cbv
 refine⟨tA (qGOcc Jd),?_,?_⟩
 ·refine eD hC (bH [] [185] [216]) mixed (ts:=[(4,none)]) Tryz.func216 (by kernel_rfl) (by kernel_rfl) ?_
  intro S N
  cbv
  refine⟨_,Gk (aM qInt qGOcc) b,?_⟩
  cbv
  refine⟨[iA JD],Nb JC,Gb JE,?_⟩
  cbv
  refine⟨Nb JF,Mb JG,?_⟩
  refine⟨[tA (qGOcc Jd)],Gb JH,?_⟩
  cbv
  exact Rb
 cbv
 obtain⟨JI,hh⟩:=ae hh
 obtain⟨JJ,JK,hh⟩:=ag hh
 obtain⟨JL,hh⟩:=ae hh
 obtain⟨JM,hh⟩:=ae hh
 obtain⟨Je,JN,hh⟩:=ag hh
 refine⟨[(5,0),(9,0),(1007,50),(1014,0)],?_⟩
 cbv
 refine⟨tA (qGOcc Je),?_,?_⟩
 ·refine eD hC (bH [] [185] [216]) mixed (ts:=[(4,none)]) Tryz.func216 (by kernel_rfl) (by kernel_rfl) ?_
  intro S N
  cbv
  refine⟨_,Gk (aM qInt qGOcc) b,?_⟩
  cbv
  refine⟨[iA JJ],Nb JI,Gb JK,?_⟩
  cbv
  refine⟨Nb JL,Mb JM,?_⟩
  refine⟨[tA (qGOcc Je)],Gb JN,?_⟩
  cbv
  exact Rb
 cbv
 obtain⟨Jf,JO,hh⟩:=ag hh
 refine ak hF (eo hQ JO) ?_
 cbv
 refine⟨⟨⟨[(0,mA (0,0)),(1,iA p1),(2,mA (2,0)),(7,rA (7,50) (len (qLGOcc z))),(9,.mptr (14,0) 1 (nadd 0 (toNat y)) 0),(15,iA (cast (len (qGNode p0b)))),(16,iA y),(30,tA (qGOcc Jf)),(1000000,mA (0,0)),(1000002,mA (2,0))],[((0,0),.box 1 [iA p0a,rA (14,0) (len (qGNode A)),iA p0c,iA p0d,bA B]),((2,0),.box 1 [iA p2a,iA p2b,iA p2c]),((7,50),.arr 1 1 (qLGOcc z)),((14,0),.arr 1 10 (qGNode A))]⟩,?_,?_⟩,trivial⟩
 ·refine bm [((0,0),(1000,0)),((2,0),(1002,0)),((7,50),(1007,50)),((14,0),(1014,0))] ?_
  cbv
  all_goals exact Zb
 cbv
 obtain⟨JP,hh⟩:=ae hh
 refine⟨⟨Ob,Ab⟩,?_⟩
 refine⟨⟨Ob,Wb JP⟩,?_⟩
 refine⟨_,Gk (aM qInt qGOcc) b,?_⟩
 cbv
 refine⟨[iA c,iA d,iA j,tA (qInt o),tA (qGOcc t),tA (qGOcc u),tA (qGOcc v),tA (qGOcc w),tA (qGOcc s),iA p],Gb b,?_⟩
 cbv
 refine bcs (fun V=>?_) (fun V=>?_)
 replace hh:=ifT hh V
 try rw[V]
 cbv
 exact hN1 (_,_,_,_) _ hh fun⟨t0,t1,t2,t3⟩ e=>kA
 replace hh:=ifF hh V
 try rw[V]
 cbv
 refine⟨[iA c,iA d,iA j,tA (qInt o),tA (qGOcc t),tA (qGOcc u),tA (qGOcc v),tA (qGOcc w),tA (qGOcc s),iA (wrap .i64 (add p (cast (len (qGOcc Jf)))))],Gb2 b ((List.getElem?_eq_some_iff.1 b).1),?_⟩
 cbv
 exact hN1 (_,_,_,_) _ hh fun⟨t0,t1,t2,t3⟩ e=>kA
 replace hh:=ifF hh U
 try rw[U]
 cbv
 refine bcs (fun W=>?_) (fun W=>?_)
 replace hh:=ifT hh W
 try rw[W]
 cbv
 refine⟨_,Gk (aM qInt qGOcc) b,?_⟩
 cbv
 obtain⟨JQ,hh⟩:=ae hh
 obtain⟨JR,JS,hh⟩:=ag hh
 obtain⟨JT,hh⟩:=ae hh
 obtain⟨JU,hh⟩:=ae hh
 obtain⟨Jg,JV,hh⟩:=ag hh
 refine⟨[(5,0),(9,0),(1007,50),(1014,0)],?_⟩
 cbv
 refine⟨tA (qGOcc Jg),?_,?_⟩
 ·refine eD hC (bH [] [185] [216]) mixed (ts:=[(4,none)]) Tryz.func216 (by kernel_rfl) (by kernel_rfl) ?_
  intro S N
  cbv
  refine⟨_,Gk (aM qInt qGOcc) b,?_⟩
  cbv
  refine⟨[iA JR],Nb JQ,Gb JS,?_⟩
  cbv
  refine⟨Nb JT,Mb JU,?_⟩
  refine⟨[tA (qGOcc Jg)],Gb JV,?_⟩
  cbv
  exact Rb
 cbv
 obtain⟨JW,hh⟩:=ae hh
 obtain⟨JX,JY,hh⟩:=ag hh
 obtain⟨JZ,hh⟩:=ae hh
 obtain⟨J0,hh⟩:=ae hh
 obtain⟨Jh,J1,hh⟩:=ag hh
 refine⟨[(5,0),(9,0),(1007,50),(1014,0)],?_⟩
 cbv
 refine⟨tA (qGOcc Jh),?_,?_⟩
 ·refine eD hC (bH [] [185] [216]) mixed (ts:=[(4,none)]) Tryz.func216 (by kernel_rfl) (by kernel_rfl) ?_
  intro S N
  cbv
  refine⟨_,Gk (aM qInt qGOcc) b,?_⟩
  cbv
  refine⟨[iA JX],Nb JW,Gb JY,?_⟩
  cbv
  refine⟨Nb JZ,Mb J0,?_⟩
  refine⟨[tA (qGOcc Jh)],Gb J1,?_⟩
  cbv
  exact Rb
 cbv
 obtain⟨⟨⟨C,F⟩,Iy⟩,J2,hh⟩:=ag hh
 try dsimp only at hh
 have fc:=pc hQ J2
 try dsimp only at fc
 refine ak hF fc ?_
 cbv
 refine⟨[iA c,iA d,iA j,tA (qInt o),tA (qGOcc t),tA (qGOcc u),tA (qGOcc v),tA (qGOcc w),tA (qGOcc s),iA p],Gb b,?_⟩
 cbv
 refine⟨⟨⟨[(0,mA (0,0)),(1,iA p1),(2,mA (2,0)),(7,rA (7,50) (len (qLGOcc z))),(9,.mptr (14,0) 1 (nadd 0 (toNat y)) 0),(15,iA (cast (len (qGNode p0b)))),(16,iA y),(30,tA (qGOcc Iy)),(1000000,mA (0,0)),(1000002,mA (2,0))],[((0,0),.box 1 [iA p0a,rA (14,0) (len (qGNode A)),iA p0c,iA p0d,bA B]),((2,0),.box 1 [iA p2a,iA p2b,iA p2c]),((7,50),.arr 1 1 (qLGOcc z)),((14,0),.arr 1 10 (set (qGNode A) (nadd 0 (toNat y)) [iA c,iA d,iA j,tA (qInt o),tA (qGOcc C),tA (qGOcc F),tA (qGOcc v),tA (qGOcc w),tA (qGOcc s),iA p]))]⟩,?_,?_⟩,trivial⟩
 ·refine bm [((0,0),(1000,0)),((2,0),(1002,0)),((7,50),(1007,50)),((14,0),(1014,0))] ?_
  cbv
  all_goals exact Zb
 cbv
 obtain⟨J3,hh⟩:=ae hh
 refine⟨⟨Ob,Ab⟩,?_⟩
 refine⟨⟨Ob,Wb J3⟩,?_⟩
 refine⟨[iA c,iA d,iA j,tA (qInt o),tA (qGOcc C),tA (qGOcc F),tA (qGOcc v),tA (qGOcc w),tA (qGOcc s),iA p],Gb2 b ((List.getElem?_eq_some_iff.1 b).1),?_⟩
 cbv
 refine⟨[iA c,iA d,iA j,tA (qInt o),tA (qGOcc C),tA (qGOcc F),tA (qGOcc v),tA (qGOcc w),tA (qGOcc s),iA p],Gb2 b ((List.getElem?_eq_some_iff.1 b).1),?_⟩
 cbv
 refine bcs (fun X=>?_) (fun X=>?_)
 replace hh:=ifT hh X
 try rw[X]
 cbv
 exact hN1 (_,_,_,_) _ hh fun⟨t0,t1,t2,t3⟩ e=>kA
 replace hh:=ifF hh X
 try rw[X]
 cbv
 refine⟨[iA c,iA d,iA j,tA (qInt o),tA (qGOcc C),tA (qGOcc F),tA (qGOcc v),tA (qGOcc w),tA (qGOcc s),iA (wrap .i64 (add p (cast (len (qGOcc Iy)))))],Gb2 b ((List.getElem?_eq_some_iff.1 b).1),?_⟩
 cbv
 exact hN1 (_,_,_,_) _ hh fun⟨t0,t1,t2,t3⟩ e=>kA
 replace hh:=ifF hh W
 try rw[W]
 cbv
 refine bcs (fun Y=>?_) (fun Y=>?_)
 replace hh:=ifT hh Y
 try rw[Y]
 cbv
 refine⟨_,Gk (aM qInt qGOcc) b,?_⟩
 cbv
 obtain⟨J4,hh⟩:=ae hh
 obtain⟨J5,J6,hh⟩:=ag hh
 obtain⟨J7,hh⟩:=ae hh
 obtain⟨J8,hh⟩:=ae hh
 obtain⟨Ji,J9,hh⟩:=ag hh
 refine⟨[(5,0),(9,0),(1007,50),(1014,0)],?_⟩
 cbv
 refine⟨tA (qGOcc Ji),?_,?_⟩
 ·refine eD hC (bH [] [185] [216]) mixed (ts:=[(4,none)]) Tryz.func216 (by kernel_rfl) (by kernel_rfl) ?_
  intro S N
  cbv
  refine⟨_,Gk (aM qInt qGOcc) b,?_⟩
  cbv
  refine⟨[iA J5],Nb J4,Gb J6,?_⟩
  cbv
  refine⟨Nb J7,Mb J8,?_⟩
  refine⟨[tA (qGOcc Ji)],Gb J9,?_⟩
  cbv
  exact Rb
 cbv
 obtain⟨Ka,hh⟩:=ae hh
 obtain⟨Kb,Kc,hh⟩:=ag hh
 obtain⟨Kd,hh⟩:=ae hh
 obtain⟨Ke,hh⟩:=ae hh
 obtain⟨Jj,Kf,hh⟩:=ag hh
 refine⟨[(5,0),(9,0),(1007,50),(1014,0)],?_⟩
 cbv
 refine⟨tA (qGOcc Jj),?_,?_⟩
 ·refine eD hC (bH [] [185] [216]) mixed (ts:=[(4,none)]) Tryz.func216 (by kernel_rfl) (by kernel_rfl) ?_
  intro S N
  cbv
  refine⟨_,Gk (aM qInt qGOcc) b,?_⟩
  cbv
  refine⟨[iA Kb],Nb Ka,Gb Kc,?_⟩
  cbv
  refine⟨Nb Kd,Mb Ke,?_⟩
  refine⟨[tA (qGOcc Jj)],Gb Kf,?_⟩
  cbv
  exact Rb
 cbv
 obtain⟨⟨⟨G,H⟩,Iz⟩,Kg,hh⟩:=ag hh
 try dsimp only at hh
 have fc:=pp hQ Kg
 try dsimp only at fc
 refine ak hF fc ?_
 cbv
 refine⟨[iA c,iA d,iA j,tA (qInt o),tA (qGOcc t),tA (qGOcc u),tA (qGOcc v),tA (qGOcc w),tA (qGOcc s),iA p],Gb b,?_⟩
 cbv
 refine⟨⟨⟨[(0,mA (0,0)),(1,iA p1),(2,mA (2,0)),(7,rA (7,50) (len (qLGOcc z))),(9,.mptr (14,0) 1 (nadd 0 (toNat y)) 0),(15,iA (cast (len (qGNode p0b)))),(16,iA y),(30,tA (qGOcc Iz)),(1000000,mA (0,0)),(1000002,mA (2,0))],[((0,0),.box 1 [iA p0a,rA (14,0) (len (qGNode A)),iA p0c,iA p0d,bA B]),((2,0),.box 1 [iA p2a,iA p2b,iA p2c]),((7,50),.arr 1 1 (qLGOcc z)),((14,0),.arr 1 10 (set (qGNode A) (nadd 0 (toNat y)) [iA c,iA d,iA j,tA (qInt o),tA (qGOcc G),tA (qGOcc H),tA (qGOcc v),tA (qGOcc w),tA (qGOcc s),iA p]))]⟩,?_,?_⟩,trivial⟩
 ·refine bm [((0,0),(1000,0)),((2,0),(1002,0)),((7,50),(1007,50)),((14,0),(1014,0))] ?_
  cbv
  all_goals exact Zb
 cbv
 obtain⟨Kh,hh⟩:=ae hh
 refine⟨⟨Ob,Ab⟩,?_⟩
 refine⟨⟨Ob,Wb Kh⟩,?_⟩
 refine⟨[iA c,iA d,iA j,tA (qInt o),tA (qGOcc G),tA (qGOcc H),tA (qGOcc v),tA (qGOcc w),tA (qGOcc s),iA p],Gb2 b ((List.getElem?_eq_some_iff.1 b).1),?_⟩
 cbv
 refine⟨[iA c,iA d,iA j,tA (qInt o),tA (qGOcc G),tA (qGOcc H),tA (qGOcc v),tA (qGOcc w),tA (qGOcc s),iA p],Gb2 b ((List.getElem?_eq_some_iff.1 b).1),?_⟩
 cbv
 refine bcs (fun Z=>?_) (fun Z=>?_)
 replace hh:=ifT hh Z
 try rw[Z]
 cbv
 exact hN1 (_,_,_,_) _ hh fun⟨t0,t1,t2,t3⟩ e=>kA
 replace hh:=ifF hh Z
 try rw[Z]
 cbv
 refine⟨[iA c,iA d,iA j,tA (qInt o),tA (qGOcc G),tA (qGOcc H),tA (qGOcc v),tA (qGOcc w),tA (qGOcc s),iA (wrap .i64 (add p (cast (len (qGOcc Iz)))))],Gb2 b ((List.getElem?_eq_some_iff.1 b).1),?_⟩
 cbv
 exact hN1 (_,_,_,_) _ hh fun⟨t0,t1,t2,t3⟩ e=>kA
 replace hh:=ifF hh Y
 try rw[Y]
 cbv
 refine bcs (fun eS=>?_) (fun eS=>?_)
 replace hh:=ifT hh eS
 try rw[eS]
 cbv
 refine⟨_,Gk (aM qInt qGOcc) b,?_⟩
 cbv
 obtain⟨Ki,hh⟩:=ae hh
 obtain⟨Kj,Kk,hh⟩:=ag hh
 obtain⟨Kl,hh⟩:=ae hh
 obtain⟨Km,hh⟩:=ae hh
 obtain⟨Jk,Ko,hh⟩:=ag hh
 refine⟨[(5,0),(9,0),(1007,50),(1014,0)],?_⟩
 cbv
 refine⟨tA (qGOcc Jk),?_,?_⟩
 ·refine eD hC (bH [] [185] [216]) mixed (ts:=[(4,none)]) Tryz.func216 (by kernel_rfl) (by kernel_rfl) ?_
  intro S N
  cbv
  refine⟨_,Gk (aM qInt qGOcc) b,?_⟩
  cbv
  refine⟨[iA Kj],Nb Ki,Gb Kk,?_⟩
  cbv
  refine⟨Nb Kl,Mb Km,?_⟩
  refine⟨[tA (qGOcc Jk)],Gb Ko,?_⟩
  cbv
  exact Rb
 cbv
 obtain⟨Kp,hh⟩:=ae hh
 obtain⟨Kq,Kr,hh⟩:=ag hh
 obtain⟨Ks,hh⟩:=ae hh
 obtain⟨Kt,hh⟩:=ae hh
 obtain⟨Jl,Ku,hh⟩:=ag hh
 refine⟨[(5,0),(9,0),(1007,50),(1014,0)],?_⟩
 cbv
 refine⟨tA (qGOcc Jl),?_,?_⟩
 ·refine eD hC (bH [] [185] [216]) mixed (ts:=[(4,none)]) Tryz.func216 (by kernel_rfl) (by kernel_rfl) ?_
  intro S N
  cbv
  refine⟨_,Gk (aM qInt qGOcc) b,?_⟩
  cbv
  refine⟨[iA Kq],Nb Kp,Gb Kr,?_⟩
  cbv
  refine⟨Nb Ks,Mb Kt,?_⟩
  refine⟨[tA (qGOcc Jl)],Gb Ku,?_⟩
  cbv
  exact Rb
 cbv
 obtain⟨Kv,hh⟩:=ae hh
 obtain⟨Kw,Kx,hh⟩:=ag hh
 obtain⟨Ky,hh⟩:=ae hh
 obtain⟨Kz,hh⟩:=ae hh
 obtain⟨Jn,KA,hh⟩:=ag hh
 refine⟨[(5,0),(9,0),(1007,50),(1014,0)],?_⟩
 cbv
 refine⟨tA (qGOcc Jn),?_,?_⟩
 ·refine eD hC (bH [] [185] [216]) mixed (ts:=[(4,none)]) Tryz.func216 (by kernel_rfl) (by kernel_rfl) ?_
  intro S N
  cbv
  refine⟨_,Gk (aM qInt qGOcc) b,?_⟩
  cbv
  refine⟨[iA Kw],Nb Kv,Gb Kx,?_⟩
  cbv
  refine⟨Nb Ky,Mb Kz,?_⟩
  refine⟨[tA (qGOcc Jn)],Gb KA,?_⟩
  cbv
  exact Rb
 cbv
 obtain⟨⟨⟨I,J⟩,IC⟩,KC,hh⟩:=ag hh
 try dsimp only at hh
 have fc:=pt hQ KC
 try dsimp only at fc
 refine ak hF fc ?_
 cbv
 refine⟨[iA c,iA d,iA j,tA (qInt o),tA (qGOcc t),tA (qGOcc u),tA (qGOcc v),tA (qGOcc w),tA (qGOcc s),iA p],Gb b,?_⟩
 cbv
 refine⟨⟨⟨[(0,mA (0,0)),(1,iA p1),(2,mA (2,0)),(7,rA (7,50) (len (qLGOcc z))),(9,.mptr (14,0) 1 (nadd 0 (toNat y)) 0),(15,iA (cast (len (qGNode p0b)))),(16,iA y),(30,tA (qGOcc IC)),(1000000,mA (0,0)),(1000002,mA (2,0))],[((0,0),.box 1 [iA p0a,rA (14,0) (len (qGNode A)),iA p0c,iA p0d,bA B]),((2,0),.box 1 [iA p2a,iA p2b,iA p2c]),((7,50),.arr 1 1 (qLGOcc z)),((14,0),.arr 1 10 (set (qGNode A) (nadd 0 (toNat y)) [iA c,iA d,iA j,tA (qInt o),tA (qGOcc t),tA (qGOcc u),tA (qGOcc I),tA (qGOcc J),tA (qGOcc s),iA p]))]⟩,?_,?_⟩,trivial⟩
 ·refine bm [((0,0),(1000,0)),((2,0),(1002,0)),((7,50),(1007,50)),((14,0),(1014,0))] ?_
  cbv
  all_goals exact Zb
 cbv
 obtain⟨KD,hh⟩:=ae hh
 refine⟨⟨Ob,Ab⟩,?_⟩
 refine⟨⟨Ob,Wb KD⟩,?_⟩
 refine⟨[iA c,iA d,iA j,tA (qInt o),tA (qGOcc t),tA (qGOcc u),tA (qGOcc I),tA (qGOcc J),tA (qGOcc s),iA p],Gb2 b ((List.getElem?_eq_some_iff.1 b).1),?_⟩
 cbv
 refine⟨[iA c,iA d,iA j,tA (qInt o),tA (qGOcc t),tA (qGOcc u),tA (qGOcc I),tA (qGOcc J),tA (qGOcc s),iA p],Gb2 b ((List.getElem?_eq_some_iff.1 b).1),?_⟩
 cbv
 refine bcs (fun HP=>?_) (fun HP=>?_)
 replace hh:=ifT hh HP
 try rw[HP]
 cbv
 exact hN1 (_,_,_,_) _ hh fun⟨t0,t1,t2,t3⟩ e=>kA
 replace hh:=ifF hh HP
 try rw[HP]
 cbv
 refine⟨[iA c,iA d,iA j,tA (qInt o),tA (qGOcc t),tA (qGOcc u),tA (qGOcc I),tA (qGOcc J),tA (qGOcc s),iA (wrap .i64 (add p (cast (len (qGOcc IC)))))],Gb2 b ((List.getElem?_eq_some_iff.1 b).1),?_⟩
 cbv
 exact hN1 (_,_,_,_) _ hh fun⟨t0,t1,t2,t3⟩ e=>kA
 replace hh:=ifF hh eS
 try rw[eS]
 cbv
 refine bcs (fun Ia=>?_) (fun Ia=>?_)
 replace hh:=ifT hh Ia
 try rw[Ia]
 cbv
 refine⟨_,Gk (aM qInt qGOcc) b,?_⟩
 cbv
 obtain⟨KE,hh⟩:=ae hh
 obtain⟨KG,KH,hh⟩:=ag hh
 obtain⟨KJ,hh⟩:=ae hh
 obtain⟨KK,hh⟩:=ae hh
 obtain⟨Jo,KL,hh⟩:=ag hh
 refine⟨[(5,0),(9,0),(1007,50),(1014,0)],?_⟩
 cbv
 refine⟨tA (qGOcc Jo),?_,?_⟩
 ·refine eD hC (bH [] [185] [216]) mixed (ts:=[(4,none)]) Tryz.func216 (by kernel_rfl) (by kernel_rfl) ?_
  intro S N
  cbv
  refine⟨_,Gk (aM qInt qGOcc) b,?_⟩
  cbv
  refine⟨[iA KG],Nb KE,Gb KH,?_⟩
  cbv
  refine⟨Nb KJ,Mb KK,?_⟩
  refine⟨[tA (qGOcc Jo)],Gb KL,?_⟩
  cbv
  exact Rb
 cbv
 obtain⟨KM,hh⟩:=ae hh
 obtain⟨KN,KO,hh⟩:=ag hh
 obtain⟨KP,hh⟩:=ae hh
 obtain⟨KQ,hh⟩:=ae hh
 obtain⟨Jp,KR,hh⟩:=ag hh
 refine⟨[(5,0),(9,0),(1007,50),(1014,0)],?_⟩
 cbv
 refine⟨tA (qGOcc Jp),?_,?_⟩
 ·refine eD hC (bH [] [185] [216]) mixed (ts:=[(4,none)]) Tryz.func216 (by kernel_rfl) (by kernel_rfl) ?_
  intro S N
  cbv
  refine⟨_,Gk (aM qInt qGOcc) b,?_⟩
  cbv
  refine⟨[iA KN],Nb KM,Gb KO,?_⟩
  cbv
  refine⟨Nb KP,Mb KQ,?_⟩
  refine⟨[tA (qGOcc Jp)],Gb KR,?_⟩
  cbv
  exact Rb
 cbv
 obtain⟨KS,hh⟩:=ae hh
 obtain⟨KT,KU,hh⟩:=ag hh
 obtain⟨KV,hh⟩:=ae hh
 obtain⟨KW,hh⟩:=ae hh
 obtain⟨Jq,KX,hh⟩:=ag hh
 refine⟨[(5,0),(9,0),(1007,50),(1014,0)],?_⟩
 cbv
 refine⟨tA (qGOcc Jq),?_,?_⟩
 ·refine eD hC (bH [] [185] [216]) mixed (ts:=[(4,none)]) Tryz.func216 (by kernel_rfl) (by kernel_rfl) ?_
  intro S N
  cbv
  refine⟨_,Gk (aM qInt qGOcc) b,?_⟩
  cbv
  refine⟨[iA KT],Nb KS,Gb KU,?_⟩
  cbv
  refine⟨Nb KV,Mb KW,?_⟩
  refine⟨[tA (qGOcc Jq)],Gb KX,?_⟩
  cbv
  exact Rb
 cbv
 obtain⟨⟨⟨K,L⟩,IG⟩,KY,hh⟩:=ag hh
 try dsimp only at hh
 have fc:=oe hQ KY
 try dsimp only at fc
 refine ak hF fc ?_
 cbv
 refine⟨[iA c,iA d,iA j,tA (qInt o),tA (qGOcc t),tA (qGOcc u),tA (qGOcc v),tA (qGOcc w),tA (qGOcc s),iA p],Gb b,?_⟩
 cbv
 refine⟨⟨⟨[(0,mA (0,0)),(1,iA p1),(2,mA (2,0)),(7,rA (7,50) (len (qLGOcc z))),(9,.mptr (14,0) 1 (nadd 0 (toNat y)) 0),(15,iA (cast (len (qGNode p0b)))),(16,iA y),(30,tA (qGOcc IG)),(1000000,mA (0,0)),(1000002,mA (2,0))],[((0,0),.box 1 [iA p0a,rA (14,0) (len (qGNode A)),iA p0c,iA p0d,bA B]),((2,0),.box 1 [iA p2a,iA p2b,iA p2c]),((7,50),.arr 1 1 (qLGOcc z)),((14,0),.arr 1 10 (set (qGNode A) (nadd 0 (toNat y)) [iA c,iA d,iA j,tA (qInt o),tA (qGOcc t),tA (qGOcc u),tA (qGOcc K),tA (qGOcc L),tA (qGOcc s),iA p]))]⟩,?_,?_⟩,trivial⟩
 ·refine bm [((0,0),(1000,0)),((2,0),(1002,0)),((7,50),(1007,50)),((14,0),(1014,0))] ?_
  cbv
  all_goals exact Zb
 cbv
 obtain⟨KZ,hh⟩:=ae hh
 refine⟨⟨Ob,Ab⟩,?_⟩
 refine⟨⟨Ob,Wb KZ⟩,?_⟩
 refine⟨[iA c,iA d,iA j,tA (qInt o),tA (qGOcc t),tA (qGOcc u),tA (qGOcc K),tA (qGOcc L),tA (qGOcc s),iA p],Gb2 b ((List.getElem?_eq_some_iff.1 b).1),?_⟩
 cbv
 refine⟨[iA c,iA d,iA j,tA (qInt o),tA (qGOcc t),tA (qGOcc u),tA (qGOcc K),tA (qGOcc L),tA (qGOcc s),iA p],Gb2 b ((List.getElem?_eq_some_iff.1 b).1),?_⟩
 cbv
 refine bcs (fun Ic=>?_) (fun Ic=>?_)
 replace hh:=ifT hh Ic
 try rw[Ic]
 cbv
 exact hN1 (_,_,_,_) _ hh fun⟨t0,t1,t2,t3⟩ e=>kA
 replace hh:=ifF hh Ic
 try rw[Ic]
 cbv
 refine⟨[iA c,iA d,iA j,tA (qInt o),tA (qGOcc t),tA (qGOcc u),tA (qGOcc K),tA (qGOcc L),tA (qGOcc s),iA (wrap .i64 (add p (cast (len (qGOcc IG)))))],Gb2 b ((List.getElem?_eq_some_iff.1 b).1),?_⟩
 cbv
 exact hN1 (_,_,_,_) _ hh fun⟨t0,t1,t2,t3⟩ e=>kA
 replace hh:=ifF hh Ia
 try rw[Ia]
 cbv
 refine⟨_,Gk (aM qInt qGOcc) b,?_⟩
 cbv
 obtain⟨Io,K3,hh⟩:=ag hh
 refine ak hF (ah.frz (r':=tA (qGOcc Io)) (yZ hQ K3) (by cases hQ;simp)) ?_
 cbv
 refine⟨_,Gk (aM qInt qGOcc) b,?_⟩
 cbv
 obtain⟨Jr,K4,hh⟩:=ag hh
 refine ak hF (ah.frz (r':=tA (qGOcc Jr)) (im hQ (g1:=fun y0=>eh.f y0 p1) (fun h=>m9 hQ h) K4) (by cases hQ;simp)) ?_
 cbv
 refine⟨[iA c,iA d,iA j,tA (qInt o),tA (qGOcc t),tA (qGOcc u),tA (qGOcc v),tA (qGOcc w),tA (qGOcc s),iA p],Gb b,?_⟩
 cbv
 obtain⟨K5,hh⟩:=ae hh
 obtain⟨K6,K7,hh⟩:=ag hh
 obtain⟨K8,hh⟩:=ae hh
 obtain⟨K9,hh⟩:=ae hh
 obtain⟨Is,La,hh⟩:=ag hh
 refine⟨[(5,0),(9,0),(1007,50),(1014,0)],?_⟩
 cbv
 refine⟨tA (qGOcc Is),?_,?_⟩
 ·refine eD hC (bH [] [185] [216]) mixed (ts:=[(4,none)]) Tryz.func216 (by kernel_rfl) (by kernel_rfl) ?_
  intro S N
  cbv
  refine⟨[iA c,iA d,iA j,tA (qInt o),tA (qGOcc t),tA (qGOcc u),tA (qGOcc v),tA (qGOcc w),tA (qGOcc Jr),iA p],Gb2 b ((List.getElem?_eq_some_iff.1 b).1),?_⟩
  cbv
  refine⟨[iA K6],Nb K5,Gb K7,?_⟩
  cbv
  refine⟨Nb K8,Mb K9,?_⟩
  refine⟨[tA (qGOcc Is)],Gb La,?_⟩
  cbv
  exact Rb
 cbv
 obtain⟨o2,Lf,hq2⟩:=ag hh
 refine lgq [] [185] [216] hC (U2 (am.l2 k Is y))
  (fun⟨IL,Js⟩=>⟨[(5,mA (5,0)),(12,tA (qGOcc Io)),(36,tA (qGOcc Is)),(37,iA (cast (len (qGOcc Is)))),(38,iA Js),(2000000,mA (1000,0)),(2000001,iA p1),(2000002,mA (1002,0)),(2000007,rA (1007,50) (len (qLGOcc z))),(2000009,.mptr (1014,0) 1 (nadd 0 (toNat y)) 0),(2000015,iA (cast (len (qGNode p0b)))),(2000016,iA y),(3000000,mA (1000,0)),(3000002,mA (1002,0))],[((5,0),.box 1 [.mptr (1014,0) 1 (nadd 0 (toNat y)) 0]),((1000,0),.box 1 [iA p0a,rA (1014,0) (len (qGNode IL)),iA p0c,iA p0d,bA B]),((1002,0),.box 1 [iA p2a,iA p2b,iA p2c]),((1007,50),.arr 1 1 (qLGOcc z)),((1014,0),.arr 1 10 (qGNode IL))]⟩)
  (fun(It:List GNode)=>⟨[(12,tA (qGOcc Io)),(2000000,mA (1000,0)),(2000001,iA p1),(2000002,mA (1002,0)),(2000007,rA (1007,50) (len (qLGOcc z))),(2000009,.mptr (1014,0) 1 (nadd 0 (toNat y)) 0),(2000015,iA (cast (len (qGNode p0b)))),(2000016,iA y),(3000000,mA (1000,0)),(3000002,mA (1002,0))],[((1000,0),.box 1 [iA p0a,rA (1014,0) (len (qGNode It)),iA p0c,iA p0d,bA B]),((1002,0),.box 1 [iA p2a,iA p2b,iA p2c]),((1007,50),.arr 1 1 (qLGOcc z)),((1014,0),.arr 1 10 (qGNode It))]⟩) (fun x=>x) (.exit 1)
  (i0:=(_,_)) Lf (fun⟨t0,t1⟩ e=>kA) ?_ ?_
 rintro It hx
 subst o2
 have hh:=hq2
 cbv
 refine⟨⟨⟨[(0,mA (0,0)),(1,iA p1),(2,mA (2,0)),(7,rA (7,50) (len (qLGOcc z))),(9,.mptr (14,0) 1 (nadd 0 (toNat y)) 0),(15,iA (cast (len (qGNode p0b)))),(16,iA y),(30,tA (qGOcc Io)),(1000000,mA (0,0)),(1000002,mA (2,0))],[((0,0),.box 1 [iA p0a,rA (14,0) (len (qGNode It)),iA p0c,iA p0d,bA B]),((2,0),.box 1 [iA p2a,iA p2b,iA p2c]),((7,50),.arr 1 1 (qLGOcc z)),((14,0),.arr 1 10 (qGNode It))]⟩,?_,?_⟩,trivial⟩
 ·refine bm [((0,0),(1000,0)),((2,0),(1002,0)),((7,50),(1007,50)),((14,0),(1014,0))] ?_
  cbv
  all_goals exact Zb
 cbv
 obtain⟨Lb,hh⟩:=ae hh
 refine⟨⟨Ob,Ab⟩,?_⟩
 refine⟨⟨Ob,Wb Lb⟩,?_⟩
 obtain⟨⟨IP,IR,IT,IU,⟨IW,IX⟩,⟨I1,I3⟩,I6,Jb⟩,Ix,hh⟩:=ag hh
 try dsimp only at hh
 refine⟨_,Gk (aM qInt qGOcc) Ix,?_⟩
 cbv
 refine⟨[iA IP,iA IR,iA IT,tA (qInt IU),tA (qGOcc IW),tA (qGOcc IX),tA (qGOcc I1),tA (qGOcc I3),tA (qGOcc I6),iA Jb],Gb Ix,?_⟩
 cbv
 refine bcs (fun Iv=>?_) (fun Iv=>?_)
 replace hh:=ifT hh Iv
 try rw[Iv]
 cbv
 exact hN1 (_,_,_,_) _ hh fun⟨t0,t1,t2,t3⟩ e=>kA
 replace hh:=ifF hh Iv
 try rw[Iv]
 cbv
 refine⟨[iA IP,iA IR,iA IT,tA (qInt IU),tA (qGOcc IW),tA (qGOcc IX),tA (qGOcc I1),tA (qGOcc I3),tA (qGOcc I6),iA (wrap .i64 (add Jb (cast (len (qGOcc Io)))))],Gb2 Ix ((List.getElem?_eq_some_iff.1 Ix).1),?_⟩
 cbv
 exact hN1 (_,_,_,_) _ hh fun⟨t0,t1,t2,t3⟩ e=>kA
 rintro n ⟨IL,Js⟩ N2 D2 hh hN2 hD2 hQ2
 dsimp only[U2] at hh
 unfold am.l2 at hh
 cbv
 refine bcs (fun Iw=>?_) (fun Iw=>?_)
 replace hh:=ifT hh Iw
 try rw[Iw]
 cbv
 obtain⟨Lc,hh⟩:=ae hh
 obtain⟨⟨Ju,Jv,Jw⟩,Ld,hh⟩:=ag hh
 try dsimp only at hh
 refine⟨[iA Ju,iA Jv,tA (qInt Jw)],Nb Lc,Gb Ld,?_⟩
 cbv
 obtain⟨⟨Lg,Lh,Li,Lj,⟨Lk,Ll⟩,⟨Lm,Ln⟩,Lo,Lp⟩,Jt,hh⟩:=ag hh
 try dsimp only at hh
 refine⟨_,Gk (aM qInt qGOcc) Jt,?_⟩
 cbv
 refine⟨_,Gk (aM qInt qGOcc) Jt,?_⟩
 cbv
 have c1:=@sI
 have c2:=@lU
 exact D
 replace hh:=ifF hh Iw
 try rw[Iw]
 cbv
 exact hD2 _ _ hh fun t0 e=>kA
 replace hh:=ifF hh M
 try rw[M]
 cbv
 exact hD1 (_,_,_) _ hh fun⟨t0,t1,t2⟩ e=>kA

end Go.Proofs.YtlbnmldopjadoaaGreat
