/- The functions of this program do what the plain ones do. -/
import Derived.Test.YtlbnmldopjadoaaGreatC13
namespace Go.Proofs.YtlbnmldopjadoaaGreat
open Go Go.Vm
set_option linter.unusedVariables false
set_option maxHeartbeats 4000000
set_option maxRecDepth 4000
variable {qIu8:Vm.RW Int} {qGEx:Vm.RW GEx} {qGRule:Vm.RW GRule} {qStr:Vm.RW ByteArray} {qInt:Vm.RW Int} {qGExO:Vm.RW GEx} {qGOcc:Vm.RW GOcc} {qGNode:Vm.RW GNode} {qGNodeS:Vm.RW GNode} {qGGraphS2:Vm.RW GGraph} {qGGraph:Vm.RW GGraph} {qGEv:Vm.RW GEv} {qGFire:Vm.RW GFire} {qGOccO:Vm.RW GOcc} {qLGOcc:Vm.RW (List GOcc)} {qBool:Vm.RW Bool} {qGGraphS:Vm.RW GGraph} {qLInt:Vm.RW (List Int)} (hQ:EQ qIu8 qGEx qGRule qStr qInt qGExO qGOcc qGNode qGNodeS qGGraphS2 qGGraph qGEv qGFire qGOccO qLGOcc qBool qGGraphS qLInt)
include hQ
theorem rr {k:Nat} {p0:GGraph} {p1:Int} {p2:GEv} {r:(List GOcc)×GGraph×GEv} (hh:am.f k p0 p1 p2=some r):ah P 130 [.obox [iA p0.Mode,oA 10 (qGNode p0.Nodes),iA p0.Seen,iA p0.Now,bA p0.Full],iA p1,.obox [iA p2.Sym,iA p2.At,iA p2.Val]] [.obox [iA r.2.1.Mode,oA 10 (qGNode r.2.1.Nodes),iA r.2.1.Seen,iA r.2.1.Now,bA r.2.1.Full],hA,.obox [iA r.2.2.Sym,iA r.2.2.At,iA r.2.2.Val]] (tA (qGOcc r.1)):=by
 obtain⟨p0a,p0b,p0c,p0d,p0e⟩:=p0
 obtain⟨p2a,p2b,p2c⟩:=p2
 unfold am.f at hh
 refine gq [] [185] [216] [(6,none)] [.val] [.own,.skip,.own] Tryz.func130 ?_
 unhygienic intros
 cbv
 obtain⟨o1,Lg,hq1⟩:=ag hh
 refine lgq [] [185] [216] hC (U4 (am.l1 k (⟨p0a,p0b,p0c,p0d,p0e⟩:GGraph) p1 (⟨p2a,p2b,p2c⟩:GEv)))
  (fun⟨A,B,z,y⟩=>⟨[(0,mA (0,0)),(1,iA p1),(2,mA (2,0)),(7,rA (7,50) (len (qLGOcc z))),(15,iA (cast (len (qGNode p0b)))),(16,iA y),(1000000,mA (0,0)),(1000002,mA (2,0))],[((0,0),.box 1 [iA p0a,rA (14,0) (len (qGNode A)),iA p0c,iA p0d,bA B]),((2,0),.box 1 [iA p2a,iA p2b,iA p2c]),((7,50),.arr 1 1 (qLGOcc z)),((14,0),.arr 1 10 (qGNode A))]⟩)
  (fun⟨IL,IM,Je⟩=>⟨[(7,rA (7,50) (len (qLGOcc IL))),(1000000,mA (0,0)),(1000002,mA (2,0))],[((0,0),.box 1 [iA p0a,rA (14,0) (len (qGNode IM)),iA p0c,iA p0d,bA Je]),((2,0),.box 1 [iA p2a,iA p2b,iA p2c]),((7,50),.arr 1 1 (qLGOcc IL)),((14,0),.arr 1 10 (qGNode IM))]⟩) (fun x=>x) (.exit 0)
  (i0:=(_,_,_,_)) Lg (fun⟨t0,t1,t2,t3⟩ e=>kA) ?_ ?_
 rintro⟨IL,IM,Je⟩ hx
 subst o1
 have hh:=hq1
 cbv
 obtain⟨Lt,hh⟩:=ae hh
 exact D
 rintro n ⟨A,B,z,y⟩ N1 D1 hh hN1 hD1 hQ1
 dsimp only[U4] at hh
 unfold am.l1 at hh
 cbv
 refine bcs (fun M=>?_) (fun M=>?_)
 replace hh:=ifT hh M
 try rw[M]
 cbv
 obtain⟨JA,hh⟩:=ae hh
 obtain⟨JB,hh⟩:=ae hh
 refine⟨Nb JA,Mb JB,?_⟩
 refine AP hC (bH [] [185] [216]) mixed (ts:=[(10,none)]) ⟨[(0,.mptr (1014,0) 1 (nadd 0 (toNat y)) 0),(1,mA (1000,0)),(2,iA p1),(3,mA (1002,0)),(4,rA (1007,50) (len (qLGOcc z))),(2000000,mA (1000,0)),(2000001,iA p1),(2000002,mA (1002,0)),(2000007,rA (1007,50) (len (qLGOcc z))),(2000009,.mptr (1014,0) 1 (nadd 0 (toNat y)) 0),(2000015,iA (cast (len (qGNode p0b)))),(2000016,iA y),(3000000,mA (1000,0)),(3000002,mA (1002,0))],[((1000,0),.box 1 [iA p0a,rA (1014,0) (len (qGNode A)),iA p0c,iA p0d,bA B]),((1002,0),.box 1 [iA p2a,iA p2b,iA p2c]),((1007,50),.arr 1 1 (qLGOcc z)),((1014,0),.arr 1 10 (qGNode A))]⟩ Tryz.func185 (by kernel_rfl) (by kernel_rfl) ?_ ?_
 ·refine bk [((1000,0),(0,0)),((1002,0),(2,0)),((1007,50),(7,50)),((1014,0),(14,0))] ?_
  cbv
  all_goals exact Zb
 cbv
 obtain⟨⟨c,d,j,o,⟨t,u⟩,⟨v,w⟩,s,p⟩,b,hh⟩:=ag hh
 try dsimp only at hh
 refine⟨_,Gk (aM qInt qGOcc) b,?_⟩
 cbv
 refine bcs (fun O=>?_) (fun O=>?_)
 replace hh:=ifT hh O
 try rw[O]
 cbv
 refine⟨_,Gk (aM qInt qGOcc) b,?_⟩
 cbv
 refine bcs (fun Q=>?_) (fun Q=>?_)
 replace hh:=ifT hh Q
 try rw[Q]
 cbv
 refine⟨Ob,?_⟩
 refine⟨⟨⟨[(0,mA (0,0)),(1,iA p1),(2,mA (2,0)),(7,rA (7,50) (len (qLGOcc z))),(9,.mptr (14,0) 1 (nadd 0 (toNat y)) 0),(15,iA (cast (len (qGNode p0b)))),(16,iA y),(30,rA (2080,0) 1),(1000000,mA (0,0)),(1000002,mA (2,0))],[((0,0),.box 1 [iA p0a,rA (14,0) (len (qGNode A)),iA p0c,iA p0d,bA B]),((2,0),.box 1 [iA p2a,iA p2b,iA p2c]),((7,50),.arr 1 1 (qLGOcc z)),((14,0),.arr 1 10 (qGNode A)),((2080,0),.farr 1 3 (qGOcc [((⟨p1,p1,[p0c]⟩:GOcc))]))]⟩,?_,?_⟩,trivial⟩
 ·refine bk [((0,0),(1000,0)),((2,0),(1002,0)),((7,50),(1007,50)),((14,0),(1014,0)),((2080,0),(80,0))] ?_
  cbv
  all_goals exact Zb
 cbv
 refine⟨Ob,?_⟩
 obtain⟨JC,hh⟩:=ae hh
 refine⟨⟨Ob,Ab⟩,?_⟩
 refine⟨⟨Ob,Wb JC⟩,?_⟩
 refine⟨_,Gk (aM qInt qGOcc) b,?_⟩
 cbv
 refine⟨[iA c,iA d,iA j,tA (qInt o),tA (qGOcc t),tA (qGOcc u),tA (qGOcc v),tA (qGOcc w),tA (qGOcc s),iA p],Gb b,?_⟩
 cbv
 refine bcs (fun R=>?_) (fun R=>?_)
 replace hh:=ifT hh R
 try rw[R]
 cbv
 exact hN1 (_,_,_,_) _ hh fun⟨t0,t1,t2,t3⟩ e=>kA
 replace hh:=ifF hh R
 try rw[R]
 cbv
 refine⟨[iA c,iA d,iA j,tA (qInt o),tA (qGOcc t),tA (qGOcc u),tA (qGOcc v),tA (qGOcc w),tA (qGOcc s),iA (wrap .i64 (add p (cast 1)))],Gb2 b ((List.getElem?_eq_some_iff.1 b).1),?_⟩
 cbv
 exact hN1 (_,_,_,_) _ hh fun⟨t0,t1,t2,t3⟩ e=>kA
 replace hh:=ifF hh Q
 try rw[Q]
 cbv
 refine⟨⟨⟨[(0,mA (0,0)),(1,iA p1),(2,mA (2,0)),(7,rA (7,50) (len (qLGOcc z))),(9,.mptr (14,0) 1 (nadd 0 (toNat y)) 0),(15,iA (cast (len (qGNode p0b)))),(16,iA y),(30,zA),(1000000,mA (0,0)),(1000002,mA (2,0))],[((0,0),.box 1 [iA p0a,rA (14,0) (len (qGNode A)),iA p0c,iA p0d,bA B]),((2,0),.box 1 [iA p2a,iA p2b,iA p2c]),((7,50),.arr 1 1 (qLGOcc z)),((14,0),.arr 1 10 (qGNode A))]⟩,?_,?_⟩,trivial⟩
 ·refine bk [((0,0),(1000,0)),((2,0),(1002,0)),((7,50),(1007,50)),((14,0),(1014,0))] ?_
  cbv
  all_goals exact Zb
 cbv
 refine⟨none,?_⟩;try cbv
 obtain⟨JD,hh⟩:=ae hh
 refine⟨⟨Ob,Ab⟩,?_⟩
 refine⟨⟨Ob,Wb JD⟩,?_⟩
 refine⟨_,Gk (aM qInt qGOcc) b,?_⟩
 cbv
 refine⟨[iA c,iA d,iA j,tA (qInt o),tA (qGOcc t),tA (qGOcc u),tA (qGOcc v),tA (qGOcc w),tA (qGOcc s),iA p],Gb b,?_⟩
 cbv
 refine bcs (fun T=>?_) (fun T=>?_)
 replace hh:=ifT hh T
 try rw[T]
 cbv
 exact hN1 (_,_,_,_) _ hh fun⟨t0,t1,t2,t3⟩ e=>kA
 replace hh:=ifF hh T
 try rw[T]
 cbv
 refine⟨[iA c,iA d,iA j,tA (qInt o),tA (qGOcc t),tA (qGOcc u),tA (qGOcc v),tA (qGOcc w),tA (qGOcc s),iA (wrap .i64 (add p 0))],Gb2 b ((List.getElem?_eq_some_iff.1 b).1),?_⟩
 cbv
 exact hN1 (_,_,_,_) _ hh fun⟨t0,t1,t2,t3⟩ e=>kA
 replace hh:=ifF hh O
 try rw[O]
 cbv
 refine bcs (fun U=>?_) (fun U=>?_)
 replace hh:=ifT hh U
 try rw[U]
 cbv
 obtain⟨JE,hh⟩:=ae hh
 obtain⟨JF,JG,hh⟩:=ag hh
 obtain⟨JH,hh⟩:=ae hh
 obtain⟨JI,hh⟩:=ae hh
 obtain⟨Jf,JJ,hh⟩:=ag hh
 refine⟨[(5,0),(9,0),(1007,50),(1014,0)],?_⟩
 cbv
 refine⟨tA (qGOcc Jf),?_,?_⟩
 ·refine eC hC (bH [] [185] [216]) mixed (ts:=[(4,none)]) Tryz.func216 (by kernel_rfl) (by kernel_rfl) ?_
  intro S N
  cbv
  refine⟨_,Gk (aM qInt qGOcc) b,?_⟩
  cbv
  refine⟨[iA JF],Nb JE,Gb JG,?_⟩
  cbv
  refine⟨Nb JH,Mb JI,?_⟩
  refine⟨[tA (qGOcc Jf)],Gb JJ,?_⟩
  cbv
  exact Rb
 cbv
 obtain⟨JK,hh⟩:=ae hh
 obtain⟨JL,JM,hh⟩:=ag hh
 obtain⟨JN,hh⟩:=ae hh
 obtain⟨JO,hh⟩:=ae hh
 obtain⟨Jg,JP,hh⟩:=ag hh
 refine⟨[(5,0),(9,0),(1007,50),(1014,0)],?_⟩
 cbv
 refine⟨tA (qGOcc Jg),?_,?_⟩
 ·refine eC hC (bH [] [185] [216]) mixed (ts:=[(4,none)]) Tryz.func216 (by kernel_rfl) (by kernel_rfl) ?_
  intro S N
  cbv
  refine⟨_,Gk (aM qInt qGOcc) b,?_⟩
  cbv
  refine⟨[iA JL],Nb JK,Gb JM,?_⟩
  cbv
  refine⟨Nb JN,Mb JO,?_⟩
  refine⟨[tA (qGOcc Jg)],Gb JP,?_⟩
  cbv
  exact Rb
 cbv
 obtain⟨Jh,JQ,hh⟩:=ag hh
 refine ak hF (en hQ JQ) ?_
 cbv
 refine⟨⟨⟨[(0,mA (0,0)),(1,iA p1),(2,mA (2,0)),(7,rA (7,50) (len (qLGOcc z))),(9,.mptr (14,0) 1 (nadd 0 (toNat y)) 0),(15,iA (cast (len (qGNode p0b)))),(16,iA y),(30,tA (qGOcc Jh)),(1000000,mA (0,0)),(1000002,mA (2,0))],[((0,0),.box 1 [iA p0a,rA (14,0) (len (qGNode A)),iA p0c,iA p0d,bA B]),((2,0),.box 1 [iA p2a,iA p2b,iA p2c]),((7,50),.arr 1 1 (qLGOcc z)),((14,0),.arr 1 10 (qGNode A))]⟩,?_,?_⟩,trivial⟩
 ·refine bk [((0,0),(1000,0)),((2,0),(1002,0)),((7,50),(1007,50)),((14,0),(1014,0))] ?_
  cbv
  all_goals exact Zb
 cbv
 obtain⟨JR,hh⟩:=ae hh
 refine⟨⟨Ob,Ab⟩,?_⟩
 refine⟨⟨Ob,Wb JR⟩,?_⟩
 refine⟨_,Gk (aM qInt qGOcc) b,?_⟩
 cbv
 refine⟨[iA c,iA d,iA j,tA (qInt o),tA (qGOcc t),tA (qGOcc u),tA (qGOcc v),tA (qGOcc w),tA (qGOcc s),iA p],Gb b,?_⟩
 cbv
 refine bcs (fun V=>?_) (fun V=>?_)
 replace hh:=ifT hh V
 try rw[V]
 cbv
 exact hN1 (_,_,_,_) _ hh fun⟨t0,t1,t2,t3⟩ e=>kA
 replace hh:=ifF hh V
 try rw[V]
 cbv
 refine⟨[iA c,iA d,iA j,tA (qInt o),tA (qGOcc t),tA (qGOcc u),tA (qGOcc v),tA (qGOcc w),tA (qGOcc s),iA (wrap .i64 (add p (cast (len (qGOcc Jh)))))],Gb2 b ((List.getElem?_eq_some_iff.1 b).1),?_⟩
 cbv
 exact hN1 (_,_,_,_) _ hh fun⟨t0,t1,t2,t3⟩ e=>kA
 replace hh:=ifF hh U
 try rw[U]
 cbv
 refine bcs (fun W=>?_) (fun W=>?_)
 replace hh:=ifT hh W
 try rw[W]
 cbv
 refine⟨_,Gk (aM qInt qGOcc) b,?_⟩
 cbv
 obtain⟨JS,hh⟩:=ae hh
 obtain⟨JT,JU,hh⟩:=ag hh
 obtain⟨JV,hh⟩:=ae hh
 obtain⟨JW,hh⟩:=ae hh
 obtain⟨Ji,JX,hh⟩:=ag hh
 refine⟨[(5,0),(9,0),(1007,50),(1014,0)],?_⟩
 cbv
 refine⟨tA (qGOcc Ji),?_,?_⟩
 ·refine eC hC (bH [] [185] [216]) mixed (ts:=[(4,none)]) Tryz.func216 (by kernel_rfl) (by kernel_rfl) ?_
  intro S N
  cbv
  refine⟨_,Gk (aM qInt qGOcc) b,?_⟩
  cbv
  refine⟨[iA JT],Nb JS,Gb JU,?_⟩
  cbv
  refine⟨Nb JV,Mb JW,?_⟩
  refine⟨[tA (qGOcc Ji)],Gb JX,?_⟩
  cbv
  exact Rb
 cbv
 obtain⟨JY,hh⟩:=ae hh
 obtain⟨JZ,J0,hh⟩:=ag hh
 obtain⟨J1,hh⟩:=ae hh
 obtain⟨J2,hh⟩:=ae hh
 obtain⟨Jj,J3,hh⟩:=ag hh
 refine⟨[(5,0),(9,0),(1007,50),(1014,0)],?_⟩
 cbv
 refine⟨tA (qGOcc Jj),?_,?_⟩
 ·refine eC hC (bH [] [185] [216]) mixed (ts:=[(4,none)]) Tryz.func216 (by kernel_rfl) (by kernel_rfl) ?_
  intro S N
  cbv
  refine⟨_,Gk (aM qInt qGOcc) b,?_⟩
  cbv
  refine⟨[iA JZ],Nb JY,Gb J0,?_⟩
  cbv
  refine⟨Nb J1,Mb J2,?_⟩
  refine⟨[tA (qGOcc Jj)],Gb J3,?_⟩
  cbv
  exact Rb
 cbv
 obtain⟨⟨⟨C,F⟩,IB⟩,J4,hh⟩:=ag hh
 try dsimp only at hh
 have fc:=ph hQ J4
 try dsimp only at fc
 refine ak hF fc ?_
 cbv
 refine⟨[iA c,iA d,iA j,tA (qInt o),tA (qGOcc t),tA (qGOcc u),tA (qGOcc v),tA (qGOcc w),tA (qGOcc s),iA p],Gb b,?_⟩
 cbv
 refine⟨⟨⟨[(0,mA (0,0)),(1,iA p1),(2,mA (2,0)),(7,rA (7,50) (len (qLGOcc z))),(9,.mptr (14,0) 1 (nadd 0 (toNat y)) 0),(15,iA (cast (len (qGNode p0b)))),(16,iA y),(30,tA (qGOcc IB)),(1000000,mA (0,0)),(1000002,mA (2,0))],[((0,0),.box 1 [iA p0a,rA (14,0) (len (qGNode A)),iA p0c,iA p0d,bA B]),((2,0),.box 1 [iA p2a,iA p2b,iA p2c]),((7,50),.arr 1 1 (qLGOcc z)),((14,0),.arr 1 10 (set (qGNode A) (nadd 0 (toNat y)) [iA c,iA d,iA j,tA (qInt o),tA (qGOcc C),tA (qGOcc F),tA (qGOcc v),tA (qGOcc w),tA (qGOcc s),iA p]))]⟩,?_,?_⟩,trivial⟩
 ·refine bk [((0,0),(1000,0)),((2,0),(1002,0)),((7,50),(1007,50)),((14,0),(1014,0))] ?_
  cbv
  all_goals exact Zb
 cbv
 obtain⟨J5,hh⟩:=ae hh
 refine⟨⟨Ob,Ab⟩,?_⟩
 refine⟨⟨Ob,Wb J5⟩,?_⟩
 refine⟨[iA c,iA d,iA j,tA (qInt o),tA (qGOcc C),tA (qGOcc F),tA (qGOcc v),tA (qGOcc w),tA (qGOcc s),iA p],Gb2 b ((List.getElem?_eq_some_iff.1 b).1),?_⟩
 cbv
 refine⟨[iA c,iA d,iA j,tA (qInt o),tA (qGOcc C),tA (qGOcc F),tA (qGOcc v),tA (qGOcc w),tA (qGOcc s),iA p],Gb2 b ((List.getElem?_eq_some_iff.1 b).1),?_⟩
 cbv
 refine bcs (fun X=>?_) (fun X=>?_)
 replace hh:=ifT hh X
 try rw[X]
 cbv
 exact hN1 (_,_,_,_) _ hh fun⟨t0,t1,t2,t3⟩ e=>kA
 replace hh:=ifF hh X
 try rw[X]
 cbv
 refine⟨[iA c,iA d,iA j,tA (qInt o),tA (qGOcc C),tA (qGOcc F),tA (qGOcc v),tA (qGOcc w),tA (qGOcc s),iA (wrap .i64 (add p (cast (len (qGOcc IB)))))],Gb2 b ((List.getElem?_eq_some_iff.1 b).1),?_⟩
 cbv
 exact hN1 (_,_,_,_) _ hh fun⟨t0,t1,t2,t3⟩ e=>kA
 replace hh:=ifF hh W
 try rw[W]
 cbv
 refine bcs (fun Y=>?_) (fun Y=>?_)
 replace hh:=ifT hh Y
 try rw[Y]
 cbv
 refine⟨_,Gk (aM qInt qGOcc) b,?_⟩
 cbv
 obtain⟨J6,hh⟩:=ae hh
 obtain⟨J7,J8,hh⟩:=ag hh
 obtain⟨J9,hh⟩:=ae hh
 obtain⟨Ka,hh⟩:=ae hh
 obtain⟨Jk,Kb,hh⟩:=ag hh
 refine⟨[(5,0),(9,0),(1007,50),(1014,0)],?_⟩
 cbv
 refine⟨tA (qGOcc Jk),?_,?_⟩
 ·refine eC hC (bH [] [185] [216]) mixed (ts:=[(4,none)]) Tryz.func216 (by kernel_rfl) (by kernel_rfl) ?_
  intro S N
  cbv
  refine⟨_,Gk (aM qInt qGOcc) b,?_⟩
  cbv
  refine⟨[iA J7],Nb J6,Gb J8,?_⟩
  cbv
  refine⟨Nb J9,Mb Ka,?_⟩
  refine⟨[tA (qGOcc Jk)],Gb Kb,?_⟩
  cbv
  exact Rb
 cbv
 obtain⟨Kc,hh⟩:=ae hh
 obtain⟨Kd,Ke,hh⟩:=ag hh
 obtain⟨Kf,hh⟩:=ae hh
 obtain⟨Kg,hh⟩:=ae hh
 obtain⟨Jl,Kh,hh⟩:=ag hh
 refine⟨[(5,0),(9,0),(1007,50),(1014,0)],?_⟩
 cbv
 refine⟨tA (qGOcc Jl),?_,?_⟩
 ·refine eC hC (bH [] [185] [216]) mixed (ts:=[(4,none)]) Tryz.func216 (by kernel_rfl) (by kernel_rfl) ?_
  intro S N
  cbv
  refine⟨_,Gk (aM qInt qGOcc) b,?_⟩
  cbv
  refine⟨[iA Kd],Nb Kc,Gb Ke,?_⟩
  cbv
  refine⟨Nb Kf,Mb Kg,?_⟩
  refine⟨[tA (qGOcc Jl)],Gb Kh,?_⟩
  cbv
  exact Rb
 cbv
 obtain⟨⟨⟨G,H⟩,IC⟩,Ki,hh⟩:=ag hh
 try dsimp only at hh
 have fc:=pr hQ Ki
 try dsimp only at fc
 refine ak hF fc ?_
 cbv
 refine⟨[iA c,iA d,iA j,tA (qInt o),tA (qGOcc t),tA (qGOcc u),tA (qGOcc v),tA (qGOcc w),tA (qGOcc s),iA p],Gb b,?_⟩
 cbv
 refine⟨⟨⟨[(0,mA (0,0)),(1,iA p1),(2,mA (2,0)),(7,rA (7,50) (len (qLGOcc z))),(9,.mptr (14,0) 1 (nadd 0 (toNat y)) 0),(15,iA (cast (len (qGNode p0b)))),(16,iA y),(30,tA (qGOcc IC)),(1000000,mA (0,0)),(1000002,mA (2,0))],[((0,0),.box 1 [iA p0a,rA (14,0) (len (qGNode A)),iA p0c,iA p0d,bA B]),((2,0),.box 1 [iA p2a,iA p2b,iA p2c]),((7,50),.arr 1 1 (qLGOcc z)),((14,0),.arr 1 10 (set (qGNode A) (nadd 0 (toNat y)) [iA c,iA d,iA j,tA (qInt o),tA (qGOcc G),tA (qGOcc H),tA (qGOcc v),tA (qGOcc w),tA (qGOcc s),iA p]))]⟩,?_,?_⟩,trivial⟩
 ·refine bk [((0,0),(1000,0)),((2,0),(1002,0)),((7,50),(1007,50)),((14,0),(1014,0))] ?_
  cbv
  all_goals exact Zb
 cbv
 obtain⟨Kj,hh⟩:=ae hh
 refine⟨⟨Ob,Ab⟩,?_⟩
 refine⟨⟨Ob,Wb Kj⟩,?_⟩
 refine⟨[iA c,iA d,iA j,tA (qInt o),tA (qGOcc G),tA (qGOcc H),tA (qGOcc v),tA (qGOcc w),tA (qGOcc s),iA p],Gb2 b ((List.getElem?_eq_some_iff.1 b).1),?_⟩
 cbv
 refine⟨[iA c,iA d,iA j,tA (qInt o),tA (qGOcc G),tA (qGOcc H),tA (qGOcc v),tA (qGOcc w),tA (qGOcc s),iA p],Gb2 b ((List.getElem?_eq_some_iff.1 b).1),?_⟩
 cbv
 refine bcs (fun Z=>?_) (fun Z=>?_)
 replace hh:=ifT hh Z
 try rw[Z]
 cbv
 exact hN1 (_,_,_,_) _ hh fun⟨t0,t1,t2,t3⟩ e=>kA
 replace hh:=ifF hh Z
 try rw[Z]
 cbv
 refine⟨[iA c,iA d,iA j,tA (qInt o),tA (qGOcc G),tA (qGOcc H),tA (qGOcc v),tA (qGOcc w),tA (qGOcc s),iA (wrap .i64 (add p (cast (len (qGOcc IC)))))],Gb2 b ((List.getElem?_eq_some_iff.1 b).1),?_⟩
 cbv
 exact hN1 (_,_,_,_) _ hh fun⟨t0,t1,t2,t3⟩ e=>kA
 replace hh:=ifF hh Y
 try rw[Y]
 cbv
 refine bcs (fun eR=>?_) (fun eR=>?_)
 replace hh:=ifT hh eR
 try rw[eR]
 cbv
 refine⟨_,Gk (aM qInt qGOcc) b,?_⟩
 cbv
 obtain⟨Kk,hh⟩:=ae hh
 obtain⟨Kl,Km,hh⟩:=ag hh
 obtain⟨Ko,hh⟩:=ae hh
 obtain⟨Kp,hh⟩:=ae hh
 obtain⟨Jn,Kq,hh⟩:=ag hh
 refine⟨[(5,0),(9,0),(1007,50),(1014,0)],?_⟩
 cbv
 refine⟨tA (qGOcc Jn),?_,?_⟩
 ·refine eC hC (bH [] [185] [216]) mixed (ts:=[(4,none)]) Tryz.func216 (by kernel_rfl) (by kernel_rfl) ?_
  intro S N
  cbv
  refine⟨_,Gk (aM qInt qGOcc) b,?_⟩
  cbv
  refine⟨[iA Kl],Nb Kk,Gb Km,?_⟩
  cbv
  refine⟨Nb Ko,Mb Kp,?_⟩
  refine⟨[tA (qGOcc Jn)],Gb Kq,?_⟩
  cbv
  exact Rb
 cbv
 obtain⟨Kr,hh⟩:=ae hh
 obtain⟨Ks,Kt,hh⟩:=ag hh
 obtain⟨Ku,hh⟩:=ae hh
 obtain⟨Kv,hh⟩:=ae hh
 obtain⟨Jo,Kw,hh⟩:=ag hh
 refine⟨[(5,0),(9,0),(1007,50),(1014,0)],?_⟩
 cbv
 refine⟨tA (qGOcc Jo),?_,?_⟩
 ·refine eC hC (bH [] [185] [216]) mixed (ts:=[(4,none)]) Tryz.func216 (by kernel_rfl) (by kernel_rfl) ?_
  intro S N
  cbv
  refine⟨_,Gk (aM qInt qGOcc) b,?_⟩
  cbv
  refine⟨[iA Ks],Nb Kr,Gb Kt,?_⟩
  cbv
  refine⟨Nb Ku,Mb Kv,?_⟩
  refine⟨[tA (qGOcc Jo)],Gb Kw,?_⟩
  cbv
  exact Rb
 cbv
 obtain⟨Kx,hh⟩:=ae hh
 obtain⟨Ky,Kz,hh⟩:=ag hh
 obtain⟨KA,hh⟩:=ae hh
 obtain⟨KC,hh⟩:=ae hh
 obtain⟨Jp,KD,hh⟩:=ag hh
 refine⟨[(5,0),(9,0),(1007,50),(1014,0)],?_⟩
 cbv
 refine⟨tA (qGOcc Jp),?_,?_⟩
 ·refine eC hC (bH [] [185] [216]) mixed (ts:=[(4,none)]) Tryz.func216 (by kernel_rfl) (by kernel_rfl) ?_
  intro S N
  cbv
  refine⟨_,Gk (aM qInt qGOcc) b,?_⟩
  cbv
  refine⟨[iA Ky],Nb Kx,Gb Kz,?_⟩
  cbv
  refine⟨Nb KA,Mb KC,?_⟩
  refine⟨[tA (qGOcc Jp)],Gb KD,?_⟩
  cbv
  exact Rb
 cbv
 obtain⟨⟨⟨I,J⟩,IF⟩,KE,hh⟩:=ag hh
 try dsimp only at hh
 have fc:=pv hQ KE
 try dsimp only at fc
 refine ak hF fc ?_
 cbv
 refine⟨[iA c,iA d,iA j,tA (qInt o),tA (qGOcc t),tA (qGOcc u),tA (qGOcc v),tA (qGOcc w),tA (qGOcc s),iA p],Gb b,?_⟩
 cbv
 refine⟨⟨⟨[(0,mA (0,0)),(1,iA p1),(2,mA (2,0)),(7,rA (7,50) (len (qLGOcc z))),(9,.mptr (14,0) 1 (nadd 0 (toNat y)) 0),(15,iA (cast (len (qGNode p0b)))),(16,iA y),(30,tA (qGOcc IF)),(1000000,mA (0,0)),(1000002,mA (2,0))],[((0,0),.box 1 [iA p0a,rA (14,0) (len (qGNode A)),iA p0c,iA p0d,bA B]),((2,0),.box 1 [iA p2a,iA p2b,iA p2c]),((7,50),.arr 1 1 (qLGOcc z)),((14,0),.arr 1 10 (set (qGNode A) (nadd 0 (toNat y)) [iA c,iA d,iA j,tA (qInt o),tA (qGOcc t),tA (qGOcc u),tA (qGOcc I),tA (qGOcc J),tA (qGOcc s),iA p]))]⟩,?_,?_⟩,trivial⟩
 ·refine bk [((0,0),(1000,0)),((2,0),(1002,0)),((7,50),(1007,50)),((14,0),(1014,0))] ?_
  cbv
  all_goals exact Zb
 cbv
 obtain⟨KG,hh⟩:=ae hh
 refine⟨⟨Ob,Ab⟩,?_⟩
 refine⟨⟨Ob,Wb KG⟩,?_⟩
 refine⟨[iA c,iA d,iA j,tA (qInt o),tA (qGOcc t),tA (qGOcc u),tA (qGOcc I),tA (qGOcc J),tA (qGOcc s),iA p],Gb2 b ((List.getElem?_eq_some_iff.1 b).1),?_⟩
 cbv
 refine⟨[iA c,iA d,iA j,tA (qInt o),tA (qGOcc t),tA (qGOcc u),tA (qGOcc I),tA (qGOcc J),tA (qGOcc s),iA p],Gb2 b ((List.getElem?_eq_some_iff.1 b).1),?_⟩
 cbv
 refine bcs (fun HS=>?_) (fun HS=>?_)
 replace hh:=ifT hh HS
 try rw[HS]
 cbv
 exact hN1 (_,_,_,_) _ hh fun⟨t0,t1,t2,t3⟩ e=>kA
 replace hh:=ifF hh HS
 try rw[HS]
 cbv
 refine⟨[iA c,iA d,iA j,tA (qInt o),tA (qGOcc t),tA (qGOcc u),tA (qGOcc I),tA (qGOcc J),tA (qGOcc s),iA (wrap .i64 (add p (cast (len (qGOcc IF)))))],Gb2 b ((List.getElem?_eq_some_iff.1 b).1),?_⟩
 cbv
 exact hN1 (_,_,_,_) _ hh fun⟨t0,t1,t2,t3⟩ e=>kA
 replace hh:=ifF hh eR
 try rw[eR]
 cbv
 refine bcs (fun Id=>?_) (fun Id=>?_)
 replace hh:=ifT hh Id
 try rw[Id]
 cbv
 refine⟨_,Gk (aM qInt qGOcc) b,?_⟩
 cbv
 obtain⟨KH,hh⟩:=ae hh
 obtain⟨KJ,KK,hh⟩:=ag hh
 obtain⟨KL,hh⟩:=ae hh
 obtain⟨KM,hh⟩:=ae hh
 obtain⟨Jq,KN,hh⟩:=ag hh
 refine⟨[(5,0),(9,0),(1007,50),(1014,0)],?_⟩
 cbv
 refine⟨tA (qGOcc Jq),?_,?_⟩
 ·refine eC hC (bH [] [185] [216]) mixed (ts:=[(4,none)]) Tryz.func216 (by kernel_rfl) (by kernel_rfl) ?_
  intro S N
  cbv
  refine⟨_,Gk (aM qInt qGOcc) b,?_⟩
  cbv
  refine⟨[iA KJ],Nb KH,Gb KK,?_⟩
  cbv
  refine⟨Nb KL,Mb KM,?_⟩
  refine⟨[tA (qGOcc Jq)],Gb KN,?_⟩
  cbv
  exact Rb
 cbv
 obtain⟨KO,hh⟩:=ae hh
 obtain⟨KP,KQ,hh⟩:=ag hh
 obtain⟨KR,hh⟩:=ae hh
 obtain⟨KS,hh⟩:=ae hh
 obtain⟨Jr,KT,hh⟩:=ag hh
 refine⟨[(5,0),(9,0),(1007,50),(1014,0)],?_⟩
 cbv
 refine⟨tA (qGOcc Jr),?_,?_⟩
 ·refine eC hC (bH [] [185] [216]) mixed (ts:=[(4,none)]) Tryz.func216 (by kernel_rfl) (by kernel_rfl) ?_
  intro S N
  cbv
  refine⟨_,Gk (aM qInt qGOcc) b,?_⟩
  cbv
  refine⟨[iA KP],Nb KO,Gb KQ,?_⟩
  cbv
  refine⟨Nb KR,Mb KS,?_⟩
  refine⟨[tA (qGOcc Jr)],Gb KT,?_⟩
  cbv
  exact Rb
 cbv
 obtain⟨KU,hh⟩:=ae hh
 obtain⟨KV,KW,hh⟩:=ag hh
 obtain⟨KX,hh⟩:=ae hh
 obtain⟨KY,hh⟩:=ae hh
 obtain⟨Js,KZ,hh⟩:=ag hh
 refine⟨[(5,0),(9,0),(1007,50),(1014,0)],?_⟩
 cbv
 refine⟨tA (qGOcc Js),?_,?_⟩
 ·refine eC hC (bH [] [185] [216]) mixed (ts:=[(4,none)]) Tryz.func216 (by kernel_rfl) (by kernel_rfl) ?_
  intro S N
  cbv
  refine⟨_,Gk (aM qInt qGOcc) b,?_⟩
  cbv
  refine⟨[iA KV],Nb KU,Gb KW,?_⟩
  cbv
  refine⟨Nb KX,Mb KY,?_⟩
  refine⟨[tA (qGOcc Js)],Gb KZ,?_⟩
  cbv
  exact Rb
 cbv
 obtain⟨⟨⟨K,L⟩,IJ⟩,K3,hh⟩:=ag hh
 try dsimp only at hh
 have fc:=oh hQ K3
 try dsimp only at fc
 refine ak hF fc ?_
 cbv
 refine⟨[iA c,iA d,iA j,tA (qInt o),tA (qGOcc t),tA (qGOcc u),tA (qGOcc v),tA (qGOcc w),tA (qGOcc s),iA p],Gb b,?_⟩
 cbv
 refine⟨⟨⟨[(0,mA (0,0)),(1,iA p1),(2,mA (2,0)),(7,rA (7,50) (len (qLGOcc z))),(9,.mptr (14,0) 1 (nadd 0 (toNat y)) 0),(15,iA (cast (len (qGNode p0b)))),(16,iA y),(30,tA (qGOcc IJ)),(1000000,mA (0,0)),(1000002,mA (2,0))],[((0,0),.box 1 [iA p0a,rA (14,0) (len (qGNode A)),iA p0c,iA p0d,bA B]),((2,0),.box 1 [iA p2a,iA p2b,iA p2c]),((7,50),.arr 1 1 (qLGOcc z)),((14,0),.arr 1 10 (set (qGNode A) (nadd 0 (toNat y)) [iA c,iA d,iA j,tA (qInt o),tA (qGOcc t),tA (qGOcc u),tA (qGOcc K),tA (qGOcc L),tA (qGOcc s),iA p]))]⟩,?_,?_⟩,trivial⟩
 ·refine bk [((0,0),(1000,0)),((2,0),(1002,0)),((7,50),(1007,50)),((14,0),(1014,0))] ?_
  cbv
  all_goals exact Zb
 cbv
 obtain⟨K4,hh⟩:=ae hh
 refine⟨⟨Ob,Ab⟩,?_⟩
 refine⟨⟨Ob,Wb K4⟩,?_⟩
 refine⟨[iA c,iA d,iA j,tA (qInt o),tA (qGOcc t),tA (qGOcc u),tA (qGOcc K),tA (qGOcc L),tA (qGOcc s),iA p],Gb2 b ((List.getElem?_eq_some_iff.1 b).1),?_⟩
 cbv
 refine⟨[iA c,iA d,iA j,tA (qInt o),tA (qGOcc t),tA (qGOcc u),tA (qGOcc K),tA (qGOcc L),tA (qGOcc s),iA p],Gb2 b ((List.getElem?_eq_some_iff.1 b).1),?_⟩
 cbv
 refine bcs (fun If=>?_) (fun If=>?_)
 replace hh:=ifT hh If
 try rw[If]
 cbv
 exact hN1 (_,_,_,_) _ hh fun⟨t0,t1,t2,t3⟩ e=>kA
 replace hh:=ifF hh If
 try rw[If]
 cbv
 refine⟨[iA c,iA d,iA j,tA (qInt o),tA (qGOcc t),tA (qGOcc u),tA (qGOcc K),tA (qGOcc L),tA (qGOcc s),iA (wrap .i64 (add p (cast (len (qGOcc IJ)))))],Gb2 b ((List.getElem?_eq_some_iff.1 b).1),?_⟩
 cbv
 exact hN1 (_,_,_,_) _ hh fun⟨t0,t1,t2,t3⟩ e=>kA
 replace hh:=ifF hh Id
 try rw[Id]
 cbv
 refine⟨_,Gk (aM qInt qGOcc) b,?_⟩
 cbv
 obtain⟨Ir,K5,hh⟩:=ag hh
 refine ak hF (ah.frz (r':=tA (qGOcc Ir)) (za hQ K5) (by cases hQ;simp)) ?_
 cbv
 refine⟨_,Gk (aM qInt qGOcc) b,?_⟩
 cbv
 obtain⟨Jt,K6,hh⟩:=ag hh
 refine ak hF (ah.frz (r':=tA (qGOcc Jt)) (im hQ (g1:=fun y0=>eg.f y0 p1) (fun h=>ne hQ h) K6) (by cases hQ;simp)) ?_
 cbv
 refine⟨[iA c,iA d,iA j,tA (qInt o),tA (qGOcc t),tA (qGOcc u),tA (qGOcc v),tA (qGOcc w),tA (qGOcc s),iA p],Gb b,?_⟩
 cbv
 obtain⟨K7,hh⟩:=ae hh
 obtain⟨K8,K9,hh⟩:=ag hh
 obtain⟨La,hh⟩:=ae hh
 obtain⟨Lb,hh⟩:=ae hh
 obtain⟨Iv,Lc,hh⟩:=ag hh
 refine⟨[(5,0),(9,0),(1007,50),(1014,0)],?_⟩
 cbv
 refine⟨tA (qGOcc Iv),?_,?_⟩
 ·refine eC hC (bH [] [185] [216]) mixed (ts:=[(4,none)]) Tryz.func216 (by kernel_rfl) (by kernel_rfl) ?_
  intro S N
  cbv
  refine⟨[iA c,iA d,iA j,tA (qInt o),tA (qGOcc t),tA (qGOcc u),tA (qGOcc v),tA (qGOcc w),tA (qGOcc Jt),iA p],Gb2 b ((List.getElem?_eq_some_iff.1 b).1),?_⟩
  cbv
  refine⟨[iA K8],Nb K7,Gb K9,?_⟩
  cbv
  refine⟨Nb La,Mb Lb,?_⟩
  refine⟨[tA (qGOcc Iv)],Gb Lc,?_⟩
  cbv
  exact Rb
 cbv
 obtain⟨o2,Lh,hq2⟩:=ag hh
 refine lgq [] [185] [216] hC (U2 (am.l2 k Iv y))
  (fun⟨IP,Ju⟩=>⟨[(5,mA (5,0)),(12,tA (qGOcc Ir)),(36,tA (qGOcc Iv)),(37,iA (cast (len (qGOcc Iv)))),(38,iA Ju),(2000000,mA (1000,0)),(2000001,iA p1),(2000002,mA (1002,0)),(2000007,rA (1007,50) (len (qLGOcc z))),(2000009,.mptr (1014,0) 1 (nadd 0 (toNat y)) 0),(2000015,iA (cast (len (qGNode p0b)))),(2000016,iA y),(3000000,mA (1000,0)),(3000002,mA (1002,0))],[((5,0),.box 1 [.mptr (1014,0) 1 (nadd 0 (toNat y)) 0]),((1000,0),.box 1 [iA p0a,rA (1014,0) (len (qGNode IP)),iA p0c,iA p0d,bA B]),((1002,0),.box 1 [iA p2a,iA p2b,iA p2c]),((1007,50),.arr 1 1 (qLGOcc z)),((1014,0),.arr 1 10 (qGNode IP))]⟩)
  (fun(Iw:List GNode)=>⟨[(12,tA (qGOcc Ir)),(2000000,mA (1000,0)),(2000001,iA p1),(2000002,mA (1002,0)),(2000007,rA (1007,50) (len (qLGOcc z))),(2000009,.mptr (1014,0) 1 (nadd 0 (toNat y)) 0),(2000015,iA (cast (len (qGNode p0b)))),(2000016,iA y),(3000000,mA (1000,0)),(3000002,mA (1002,0))],[((1000,0),.box 1 [iA p0a,rA (1014,0) (len (qGNode Iw)),iA p0c,iA p0d,bA B]),((1002,0),.box 1 [iA p2a,iA p2b,iA p2c]),((1007,50),.arr 1 1 (qLGOcc z)),((1014,0),.arr 1 10 (qGNode Iw))]⟩) (fun x=>x) (.exit 1)
  (i0:=(_,_)) Lh (fun⟨t0,t1⟩ e=>kA) ?_ ?_
 rintro Iw hx
 subst o2
 have hh:=hq2
 cbv
 refine⟨⟨⟨[(0,mA (0,0)),(1,iA p1),(2,mA (2,0)),(7,rA (7,50) (len (qLGOcc z))),(9,.mptr (14,0) 1 (nadd 0 (toNat y)) 0),(15,iA (cast (len (qGNode p0b)))),(16,iA y),(30,tA (qGOcc Ir)),(1000000,mA (0,0)),(1000002,mA (2,0))],[((0,0),.box 1 [iA p0a,rA (14,0) (len (qGNode Iw)),iA p0c,iA p0d,bA B]),((2,0),.box 1 [iA p2a,iA p2b,iA p2c]),((7,50),.arr 1 1 (qLGOcc z)),((14,0),.arr 1 10 (qGNode Iw))]⟩,?_,?_⟩,trivial⟩
 ·refine bk [((0,0),(1000,0)),((2,0),(1002,0)),((7,50),(1007,50)),((14,0),(1014,0))] ?_
  cbv
  all_goals exact Zb
 cbv
 obtain⟨Ld,hh⟩:=ae hh
 refine⟨⟨Ob,Ab⟩,?_⟩
 refine⟨⟨Ob,Wb Ld⟩,?_⟩
 obtain⟨⟨IS,IU,IV,IW,⟨IY,IZ⟩,⟨I3,I5⟩,I8,Jd⟩,IA,hh⟩:=ag hh
 try dsimp only at hh
 refine⟨_,Gk (aM qInt qGOcc) IA,?_⟩
 cbv
 refine⟨[iA IS,iA IU,iA IV,tA (qInt IW),tA (qGOcc IY),tA (qGOcc IZ),tA (qGOcc I3),tA (qGOcc I5),tA (qGOcc I8),iA Jd],Gb IA,?_⟩
 cbv
 refine bcs (fun Iy=>?_) (fun Iy=>?_)
 replace hh:=ifT hh Iy
 try rw[Iy]
 cbv
 exact hN1 (_,_,_,_) _ hh fun⟨t0,t1,t2,t3⟩ e=>kA
 replace hh:=ifF hh Iy
 try rw[Iy]
 cbv
 refine⟨[iA IS,iA IU,iA IV,tA (qInt IW),tA (qGOcc IY),tA (qGOcc IZ),tA (qGOcc I3),tA (qGOcc I5),tA (qGOcc I8),iA (wrap .i64 (add Jd (cast (len (qGOcc Ir)))))],Gb2 IA ((List.getElem?_eq_some_iff.1 IA).1),?_⟩
 cbv
 exact hN1 (_,_,_,_) _ hh fun⟨t0,t1,t2,t3⟩ e=>kA
 rintro n ⟨IP,Ju⟩ N2 D2 hh hN2 hD2 hQ2
 dsimp only[U2] at hh
 unfold am.l2 at hh
 cbv
 refine bcs (fun Iz=>?_) (fun Iz=>?_)
 replace hh:=ifT hh Iz
 try rw[Iz]
 cbv
 obtain⟨Le,hh⟩:=ae hh
 obtain⟨⟨Jw,Jx,Jy⟩,Lf,hh⟩:=ag hh
 try dsimp only at hh
 refine⟨[iA Jw,iA Jx,tA (qInt Jy)],Nb Le,Gb Lf,?_⟩
 cbv
 obtain⟨⟨Li,Lj,Lk,Ll,⟨Lm,Ln⟩,⟨Lo,Lp⟩,Lq,Lr⟩,Jv,hh⟩:=ag hh
 try dsimp only at hh
 refine⟨_,Gk (aM qInt qGOcc) Jv,?_⟩
 cbv
 refine⟨_,Gk (aM qInt qGOcc) Jv,?_⟩
 cbv
 have c1:=@sK
 have c2:=@lS
 exact D
 replace hh:=ifF hh Iz
 try rw[Iz]
 cbv
 exact hD2 _ _ hh fun t0 e=>kA
 replace hh:=ifF hh M
 try rw[M]
 cbv
 exact hD1 (_,_,_) _ hh fun⟨t0,t1,t2⟩ e=>kA

end Go.Proofs.YtlbnmldopjadoaaGreat
