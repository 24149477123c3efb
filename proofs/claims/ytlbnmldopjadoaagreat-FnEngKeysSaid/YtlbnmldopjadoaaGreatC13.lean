/- The functions of this program do what the plain ones do. -/
import Derived.Test.YtlbnmldopjadoaaGreatC12
namespace Go.Proofs.YtlbnmldopjadoaaGreat
open Go Go.Vm
set_option linter.unusedVariables false
set_option maxHeartbeats 4000000
set_option maxRecDepth 4000
variable {qIu8:Vm.RW Int} {qGEx:Vm.RW GEx} {qGRule:Vm.RW GRule} {qStr:Vm.RW ByteArray} {qInt:Vm.RW Int} {qGExO:Vm.RW GEx} {qGOcc:Vm.RW GOcc} {qGNode:Vm.RW GNode} {qGNodeS:Vm.RW GNode} {qGGraphS2:Vm.RW GGraph} {qGGraph:Vm.RW GGraph} {qGEv:Vm.RW GEv} {qGFire:Vm.RW GFire} {qGOccO:Vm.RW GOcc} {qLGOcc:Vm.RW (List GOcc)} {qBool:Vm.RW Bool} {qGGraphS:Vm.RW GGraph} {qLInt:Vm.RW (List Int)} (hQ:EQ qIu8 qGEx qGRule qStr qInt qGExO qGOcc qGNode qGNodeS qGGraphS2 qGGraph qGEv qGFire qGOccO qLGOcc qBool qGGraphS qLInt)
include hQ
theorem oT {k:Nat} {p0:GGraph} {p1:Int} {r:(List GOcc)×GGraph} (hh:aj.f k p0 p1=some r):ah P 130 [.obox [iA p0.Mode,oA 10 (qGNode p0.Nodes),iA p0.Seen,iA p0.Now,bA p0.Full],iA p1,.lit (.pointer none)] [.obox [iA r.2.Mode,oA 10 (qGNode r.2.Nodes),iA r.2.Seen,iA r.2.Now,bA r.2.Full],hA,hA] (tA (qGOcc r.1)):=by
 obtain⟨p0a,p0b,p0c,p0d,p0e⟩:=p0
 unfold aj.f at hh
 refine gq [] [185] [216] [(6,none)] [.val] [.own,.skip,.skip] Tryz.func130 ?_
 unhygienic intros
 cbv
 obtain⟨o1,Lb,hq1⟩:=ag hh
 refine lgq [] [185] [216] hC (U4 (aj.l1 k (⟨p0a,p0b,p0c,p0d,p0e⟩:GGraph) p1))
  (fun⟨A,B,z,y⟩=>⟨[(0,mA (0,0)),(1,iA p1),(2,.lit (.pointer none)),(7,rA (7,50) (len (qLGOcc z))),(15,iA (cast (len (qGNode p0b)))),(16,iA y),(1000000,mA (0,0))],[((0,0),.box 1 [iA p0a,rA (14,0) (len (qGNode A)),iA p0c,iA p0d,bA B]),((7,50),.arr 1 1 (qLGOcc z)),((14,0),.arr 1 10 (qGNode A))]⟩)
  (fun⟨IC,IG,I6⟩=>⟨[(7,rA (7,50) (len (qLGOcc IC))),(1000000,mA (0,0))],[((0,0),.box 1 [iA p0a,rA (14,0) (len (qGNode IG)),iA p0c,iA p0d,bA I6]),((7,50),.arr 1 1 (qLGOcc IC)),((14,0),.arr 1 10 (qGNode IG))]⟩) (fun x=>x) (.exit 0)
  (i0:=(_,_,_,_)) Lb (fun⟨t0,t1,t2,t3⟩ e=>kA) ?_ ?_
 rintro⟨IC,IG,I6⟩ hx
 subst o1
 have hh:=hq1
 cbv
 obtain⟨Lo,hh⟩:=ae hh
 exact D
 rintro n ⟨A,B,z,y⟩ N1 D1 hh hN1 hD1 hQ1
 dsimp only[U4] at hh
 unfold aj.l1 at hh
 cbv
 refine bcs (fun M=>?_) (fun M=>?_)
 replace hh:=ifT hh M
 try rw[M]
 cbv
 obtain⟨Jv,hh⟩:=ae hh
 obtain⟨Jw,hh⟩:=ae hh
 refine⟨Nb Jv,Mb Jw,?_⟩
 refine AO hC (bH [] [185] [216]) mixed (ts:=[(10,none)]) ⟨[(0,.mptr (1014,0) 1 (nadd 0 (toNat y)) 0),(1,mA (1000,0)),(2,iA p1),(3,.lit (.pointer none)),(4,rA (1007,50) (len (qLGOcc z))),(2000000,mA (1000,0)),(2000001,iA p1),(2000002,.lit (.pointer none)),(2000007,rA (1007,50) (len (qLGOcc z))),(2000009,.mptr (1014,0) 1 (nadd 0 (toNat y)) 0),(2000015,iA (cast (len (qGNode p0b)))),(2000016,iA y),(3000000,mA (1000,0))],[((1000,0),.box 1 [iA p0a,rA (1014,0) (len (qGNode A)),iA p0c,iA p0d,bA B]),((1007,50),.arr 1 1 (qLGOcc z)),((1014,0),.arr 1 10 (qGNode A))]⟩ Tryz.func185 (by kernel_rfl) (by kernel_rfl) ?_ ?_
 ·refine bm [((1000,0),(0,0)),((1007,50),(7,50)),((1014,0),(14,0))] ?_
  cbv
  all_goals exact Zb
 cbv
 obtain⟨⟨c,d,j,o,⟨t,u⟩,⟨v,w⟩,s,p⟩,b,hh⟩:=ag hh
 try dsimp only at hh
 refine⟨_,Gk (aM qInt qGOcc) b,?_⟩
 cbv
 refine bcs (fun O=>?_) (fun O=>?_)
 replace hh:=ifT hh O
 try rw[O]
 cbv
 refine⟨⟨⟨[(0,mA (0,0)),(1,iA p1),(2,.lit (.pointer none)),(7,rA (7,50) (len (qLGOcc z))),(9,.mptr (14,0) 1 (nadd 0 (toNat y)) 0),(15,iA (cast (len (qGNode p0b)))),(16,iA y),(30,zA),(1000000,mA (0,0))],[((0,0),.box 1 [iA p0a,rA (14,0) (len (qGNode A)),iA p0c,iA p0d,bA B]),((7,50),.arr 1 1 (qLGOcc z)),((14,0),.arr 1 10 (qGNode A))]⟩,?_,?_⟩,trivial⟩
 ·refine bm [((0,0),(1000,0)),((7,50),(1007,50)),((14,0),(1014,0))] ?_
  cbv
  all_goals exact Zb
 cbv
 refine⟨none,?_⟩;try cbv
 obtain⟨Jx,hh⟩:=ae hh
 refine⟨⟨Ob,Ab⟩,?_⟩
 refine⟨⟨Ob,Wb Jx⟩,?_⟩
 refine⟨_,Gk (aM qInt qGOcc) b,?_⟩
 cbv
 refine⟨[iA c,iA d,iA j,tA (qInt o),tA (qGOcc t),tA (qGOcc u),tA (qGOcc v),tA (qGOcc w),tA (qGOcc s),iA p],Gb b,?_⟩
 cbv
 refine bcs (fun Q=>?_) (fun Q=>?_)
 replace hh:=ifT hh Q
 try rw[Q]
 cbv
 exact hN1 (_,_,_,_) _ hh fun⟨t0,t1,t2,t3⟩ e=>kA
 replace hh:=ifF hh Q
 try rw[Q]
 cbv
 refine⟨[iA c,iA d,iA j,tA (qInt o),tA (qGOcc t),tA (qGOcc u),tA (qGOcc v),tA (qGOcc w),tA (qGOcc s),iA (wrap .i64 (add p 0))],Gb2 b ((List.getElem?_eq_some_iff.1 b).1),?_⟩
 cbv
 exact hN1 (_,_,_,_) _ hh fun⟨t0,t1,t2,t3⟩ e=>kA
 replace hh:=ifF hh O
 try rw[O]
 cbv
 refine bcs (fun R=>?_) (fun R=>?_)
 replace hh:=ifT hh R
 try rw[R]
 cbv
 obtain⟨Jy,hh⟩:=ae hh
 obtain⟨JA,JB,hh⟩:=ag hh
 obtain⟨JC,hh⟩:=ae hh
 obtain⟨JD,hh⟩:=ae hh
 obtain⟨Jb,JE,hh⟩:=ag hh
 refine⟨[(5,0),(9,0),(1007,50),(1014,0)],?_⟩
 cbv
 refine⟨tA (qGOcc Jb),?_,?_⟩
 ·refine eD hC (bH [] [185] [216]) mixed (ts:=[(4,none)]) Tryz.func216 (by kernel_rfl) (by kernel_rfl) ?_
  intro S N
  cbv
  refine⟨_,Gk (aM qInt qGOcc) b,?_⟩
  cbv
  refine⟨[iA JA],Nb Jy,Gb JB,?_⟩
  cbv
  refine⟨Nb JC,Mb JD,?_⟩
  refine⟨[tA (qGOcc Jb)],Gb JE,?_⟩
  cbv
  exact Rb
 cbv
 obtain⟨JF,hh⟩:=ae hh
 obtain⟨JG,JH,hh⟩:=ag hh
 obtain⟨JI,hh⟩:=ae hh
 obtain⟨JJ,hh⟩:=ae hh
 obtain⟨Jc,JK,hh⟩:=ag hh
 refine⟨[(5,0),(9,0),(1007,50),(1014,0)],?_⟩
 cbv
 refine⟨tA (qGOcc Jc),?_,?_⟩
 ·refine eD hC (bH [] [185] [216]) mixed (ts:=[(4,none)]) Tryz.func216 (by kernel_rfl) (by kernel_rfl) ?_
  intro S N
  cbv
  refine⟨_,Gk (aM qInt qGOcc) b,?_⟩
  cbv
  refine⟨[iA JG],Nb JF,Gb JH,?_⟩
  cbv
  refine⟨Nb JI,Mb JJ,?_⟩
  refine⟨[tA (qGOcc Jc)],Gb JK,?_⟩
  cbv
  exact Rb
 cbv
 obtain⟨Jd,JL,hh⟩:=ag hh
 refine ak hF (eo hQ JL) ?_
 cbv
 refine⟨⟨⟨[(0,mA (0,0)),(1,iA p1),(2,.lit (.pointer none)),(7,rA (7,50) (len (qLGOcc z))),(9,.mptr (14,0) 1 (nadd 0 (toNat y)) 0),(15,iA (cast (len (qGNode p0b)))),(16,iA y),(30,tA (qGOcc Jd)),(1000000,mA (0,0))],[((0,0),.box 1 [iA p0a,rA (14,0) (len (qGNode A)),iA p0c,iA p0d,bA B]),((7,50),.arr 1 1 (qLGOcc z)),((14,0),.arr 1 10 (qGNode A))]⟩,?_,?_⟩,trivial⟩
 ·refine bm [((0,0),(1000,0)),((7,50),(1007,50)),((14,0),(1014,0))] ?_
  cbv
  all_goals exact Zb
 cbv
 obtain⟨JM,hh⟩:=ae hh
 refine⟨⟨Ob,Ab⟩,?_⟩
 refine⟨⟨Ob,Wb JM⟩,?_⟩
 refine⟨_,Gk (aM qInt qGOcc) b,?_⟩
 cbv
 refine⟨[iA c,iA d,iA j,tA (qInt o),tA (qGOcc t),tA (qGOcc u),tA (qGOcc v),tA (qGOcc w),tA (qGOcc s),iA p],Gb b,?_⟩
 cbv
 refine bcs (fun T=>?_) (fun T=>?_)
 replace hh:=ifT hh T
 try rw[T]
 cbv
 exact hN1 (_,_,_,_) _ hh fun⟨t0,t1,t2,t3⟩ e=>kA
 replace hh:=ifF hh T
 try rw[T]
 cbv
 refine⟨[iA c,iA d,iA j,tA (qInt o),tA (qGOcc t),tA (qGOcc u),tA (qGOcc v),tA (qGOcc w),tA (qGOcc s),iA (wrap .i64 (add p (cast (len (qGOcc Jd)))))],Gb2 b ((List.getElem?_eq_some_iff.1 b).1),?_⟩
 cbv
 exact hN1 (_,_,_,_) _ hh fun⟨t0,t1,t2,t3⟩ e=>kA
 replace hh:=ifF hh R
 try rw[R]
 cbv
 refine bcs (fun U=>?_) (fun U=>?_)
 replace hh:=ifT hh U
 try rw[U]
 cbv
 refine⟨_,Gk (aM qInt qGOcc) b,?_⟩
 cbv
 obtain⟨JN,hh⟩:=ae hh
 obtain⟨JO,JP,hh⟩:=ag hh
 obtain⟨JQ,hh⟩:=ae hh
 obtain⟨JR,hh⟩:=ae hh
 obtain⟨Je,JS,hh⟩:=ag hh
 refine⟨[(5,0),(9,0),(1007,50),(1014,0)],?_⟩
 cbv
 refine⟨tA (qGOcc Je),?_,?_⟩
 ·refine eD hC (bH [] [185] [216]) mixed (ts:=[(4,none)]) Tryz.func216 (by kernel_rfl) (by kernel_rfl) ?_
  intro S N
  cbv
  refine⟨_,Gk (aM qInt qGOcc) b,?_⟩
  cbv
  refine⟨[iA JO],Nb JN,Gb JP,?_⟩
  cbv
  refine⟨Nb JQ,Mb JR,?_⟩
  refine⟨[tA (qGOcc Je)],Gb JS,?_⟩
  cbv
  exact Rb
 cbv
 obtain⟨JT,hh⟩:=ae hh
 obtain⟨JU,JV,hh⟩:=ag hh
 obtain⟨JW,hh⟩:=ae hh
 obtain⟨JX,hh⟩:=ae hh
 obtain⟨Jf,JY,hh⟩:=ag hh
 refine⟨[(5,0),(9,0),(1007,50),(1014,0)],?_⟩
 cbv
 refine⟨tA (qGOcc Jf),?_,?_⟩
 ·refine eD hC (bH [] [185] [216]) mixed (ts:=[(4,none)]) Tryz.func216 (by kernel_rfl) (by kernel_rfl) ?_
  intro S N
  cbv
  refine⟨_,Gk (aM qInt qGOcc) b,?_⟩
  cbv
  refine⟨[iA JU],Nb JT,Gb JV,?_⟩
  cbv
  refine⟨Nb JW,Mb JX,?_⟩
  refine⟨[tA (qGOcc Jf)],Gb JY,?_⟩
  cbv
  exact Rb
 cbv
 obtain⟨⟨⟨C,F⟩,Iw⟩,JZ,hh⟩:=ag hh
 try dsimp only at hh
 have fc:=pc hQ JZ
 try dsimp only at fc
 refine ak hF fc ?_
 cbv
 refine⟨[iA c,iA d,iA j,tA (qInt o),tA (qGOcc t),tA (qGOcc u),tA (qGOcc v),tA (qGOcc w),tA (qGOcc s),iA p],Gb b,?_⟩
 cbv
 refine⟨⟨⟨[(0,mA (0,0)),(1,iA p1),(2,.lit (.pointer none)),(7,rA (7,50) (len (qLGOcc z))),(9,.mptr (14,0) 1 (nadd 0 (toNat y)) 0),(15,iA (cast (len (qGNode p0b)))),(16,iA y),(30,tA (qGOcc Iw)),(1000000,mA (0,0))],[((0,0),.box 1 [iA p0a,rA (14,0) (len (qGNode A)),iA p0c,iA p0d,bA B]),((7,50),.arr 1 1 (qLGOcc z)),((14,0),.arr 1 10 (set (qGNode A) (nadd 0 (toNat y)) [iA c,iA d,iA j,tA (qInt o),tA (qGOcc C),tA (qGOcc F),tA (qGOcc v),tA (qGOcc w),tA (qGOcc s),iA p]))]⟩,?_,?_⟩,trivial⟩
 ·refine bm [((0,0),(1000,0)),((7,50),(1007,50)),((14,0),(1014,0))] ?_
  cbv
  all_goals exact Zb
 cbv
 obtain⟨J0,hh⟩:=ae hh
 refine⟨⟨Ob,Ab⟩,?_⟩
 refine⟨⟨Ob,Wb J0⟩,?_⟩
 refine⟨[iA c,iA d,iA j,tA (qInt o),tA (qGOcc C),tA (qGOcc F),tA (qGOcc v),tA (qGOcc w),tA (qGOcc s),iA p],Gb2 b ((List.getElem?_eq_some_iff.1 b).1),?_⟩
 cbv
 refine⟨[iA c,iA d,iA j,tA (qInt o),tA (qGOcc C),tA (qGOcc F),tA (qGOcc v),tA (qGOcc w),tA (qGOcc s),iA p],Gb2 b ((List.getElem?_eq_some_iff.1 b).1),?_⟩
 cbv
 refine bcs (fun V=>?_) (fun V=>?_)
 replace hh:=ifT hh V
 try rw[V]
 cbv
 exact hN1 (_,_,_,_) _ hh fun⟨t0,t1,t2,t3⟩ e=>kA
 replace hh:=ifF hh V
 try rw[V]
 cbv
 refine⟨[iA c,iA d,iA j,tA (qInt o),tA (qGOcc C),tA (qGOcc F),tA (qGOcc v),tA (qGOcc w),tA (qGOcc s),iA (wrap .i64 (add p (cast (len (qGOcc Iw)))))],Gb2 b ((List.getElem?_eq_some_iff.1 b).1),?_⟩
 cbv
 exact hN1 (_,_,_,_) _ hh fun⟨t0,t1,t2,t3⟩ e=>kA
 replace hh:=ifF hh U
 try rw[U]
 cbv
 refine bcs (fun W=>?_) (fun W=>?_)
 replace hh:=ifT hh W
 try rw[W]
 cbv
 refine⟨_,Gk (aM qInt qGOcc) b,?_⟩
 cbv
 obtain⟨J1,hh⟩:=ae hh
 obtain⟨J2,J3,hh⟩:=ag hh
 obtain⟨J4,hh⟩:=ae hh
 obtain⟨J5,hh⟩:=ae hh
 obtain⟨Jg,J6,hh⟩:=ag hh
 refine⟨[(5,0),(9,0),(1007,50),(1014,0)],?_⟩
 cbv
 refine⟨tA (qGOcc Jg),?_,?_⟩
 ·refine eD hC (bH [] [185] [216]) mixed (ts:=[(4,none)]) Tryz.func216 (by kernel_rfl) (by kernel_rfl) ?_
  intro S N
  cbv
  refine⟨_,Gk (aM qInt qGOcc) b,?_⟩
  cbv
  refine⟨[iA J2],Nb J1,Gb J3,?_⟩
  cbv
  refine⟨Nb J4,Mb J5,?_⟩
  refine⟨[tA (qGOcc Jg)],Gb J6,?_⟩
  cbv
  exact Rb
 cbv
 obtain⟨J7,hh⟩:=ae hh
 obtain⟨J8,J9,hh⟩:=ag hh
 obtain⟨Ka,hh⟩:=ae hh
 obtain⟨Kb,hh⟩:=ae hh
 obtain⟨Jh,Kc,hh⟩:=ag hh
 refine⟨[(5,0),(9,0),(1007,50),(1014,0)],?_⟩
 cbv
 refine⟨tA (qGOcc Jh),?_,?_⟩
 ·refine eD hC (bH [] [185] [216]) mixed (ts:=[(4,none)]) Tryz.func216 (by kernel_rfl) (by kernel_rfl) ?_
  intro S N
  cbv
  refine⟨_,Gk (aM qInt qGOcc) b,?_⟩
  cbv
  refine⟨[iA J8],Nb J7,Gb J9,?_⟩
  cbv
  refine⟨Nb Ka,Mb Kb,?_⟩
  refine⟨[tA (qGOcc Jh)],Gb Kc,?_⟩
  cbv
  exact Rb
 cbv
 obtain⟨⟨⟨G,H⟩,Ix⟩,Kd,hh⟩:=ag hh
 try dsimp only at hh
 have fc:=pp hQ Kd
 try dsimp only at fc
 refine ak hF fc ?_
 cbv
 refine⟨[iA c,iA d,iA j,tA (qInt o),tA (qGOcc t),tA (qGOcc u),tA (qGOcc v),tA (qGOcc w),tA (qGOcc s),iA p],Gb b,?_⟩
 cbv
 refine⟨⟨⟨[(0,mA (0,0)),(1,iA p1),(2,.lit (.pointer none)),(7,rA (7,50) (len (qLGOcc z))),(9,.mptr (14,0) 1 (nadd 0 (toNat y)) 0),(15,iA (cast (len (qGNode p0b)))),(16,iA y),(30,tA (qGOcc Ix)),(1000000,mA (0,0))],[((0,0),.box 1 [iA p0a,rA (14,0) (len (qGNode A)),iA p0c,iA p0d,bA B]),((7,50),.arr 1 1 (qLGOcc z)),((14,0),.arr 1 10 (set (qGNode A) (nadd 0 (toNat y)) [iA c,iA d,iA j,tA (qInt o),tA (qGOcc G),tA (qGOcc H),tA (qGOcc v),tA (qGOcc w),tA (qGOcc s),iA p]))]⟩,?_,?_⟩,trivial⟩
 ·refine bm [((0,0),(1000,0)),((7,50),(1007,50)),((14,0),(1014,0))] ?_
  cbv
  all_goals exact Zb
 cbv
 obtain⟨Ke,hh⟩:=ae hh
 refine⟨⟨Ob,Ab⟩,?_⟩
 refine⟨⟨Ob,Wb Ke⟩,?_⟩
 refine⟨[iA c,iA d,iA j,tA (qInt o),tA (qGOcc G),tA (qGOcc H),tA (qGOcc v),tA (qGOcc w),tA (qGOcc s),iA p],Gb2 b ((List.getElem?_eq_some_iff.1 b).1),?_⟩
 cbv
 refine⟨[iA c,iA d,iA j,tA (qInt o),tA (qGOcc G),tA (qGOcc H),tA (qGOcc v),tA (qGOcc w),tA (qGOcc s),iA p],Gb2 b ((List.getElem?_eq_some_iff.1 b).1),?_⟩
 cbv
 refine bcs (fun X=>?_) (fun X=>?_)
 replace hh:=ifT hh X
 try rw[X]
 cbv
 exact hN1 (_,_,_,_) _ hh fun⟨t0,t1,t2,t3⟩ e=>kA
 replace hh:=ifF hh X
 try rw[X]
 cbv
 refine⟨[iA c,iA d,iA j,tA (qInt o),tA (qGOcc G),tA (qGOcc H),tA (qGOcc v),tA (qGOcc w),tA (qGOcc s),iA (wrap .i64 (add p (cast (len (qGOcc Ix)))))],Gb2 b ((List.getElem?_eq_some_iff.1 b).1),?_⟩
 cbv
 exact hN1 (_,_,_,_) _ hh fun⟨t0,t1,t2,t3⟩ e=>kA
 replace hh:=ifF hh W
 try rw[W]
 cbv
 refine bcs (fun Y=>?_) (fun Y=>?_)
 replace hh:=ifT hh Y
 try rw[Y]
 cbv
 refine⟨_,Gk (aM qInt qGOcc) b,?_⟩
 cbv
 obtain⟨Kf,hh⟩:=ae hh
 obtain⟨Kg,Kh,hh⟩:=ag hh
 obtain⟨Ki,hh⟩:=ae hh
 obtain⟨Kj,hh⟩:=ae hh
 obtain⟨Ji,Kk,hh⟩:=ag hh
 refine⟨[(5,0),(9,0),(1007,50),(1014,0)],?_⟩
 cbv
 refine⟨tA (qGOcc Ji),?_,?_⟩
 ·refine eD hC (bH [] [185] [216]) mixed (ts:=[(4,none)]) Tryz.func216 (by kernel_rfl) (by kernel_rfl) ?_
  intro S N
  cbv
  refine⟨_,Gk (aM qInt qGOcc) b,?_⟩
  cbv
  refine⟨[iA Kg],Nb Kf,Gb Kh,?_⟩
  cbv
  refine⟨Nb Ki,Mb Kj,?_⟩
  refine⟨[tA (qGOcc Ji)],Gb Kk,?_⟩
  cbv
  exact Rb
 cbv
 obtain⟨Kl,hh⟩:=ae hh
 obtain⟨Km,Ko,hh⟩:=ag hh
 obtain⟨Kp,hh⟩:=ae hh
 obtain⟨Kq,hh⟩:=ae hh
 obtain⟨Jj,Kr,hh⟩:=ag hh
 refine⟨[(5,0),(9,0),(1007,50),(1014,0)],?_⟩
 cbv
 refine⟨tA (qGOcc Jj),?_,?_⟩
 ·refine eD hC (bH [] [185] [216]) mixed (ts:=[(4,none)]) Tryz.func216 (by kernel_rfl) (by kernel_rfl) ?_
  intro S N
  cbv
  refine⟨_,Gk (aM qInt qGOcc) b,?_⟩
  cbv
  refine⟨[iA Km],Nb Kl,Gb Ko,?_⟩
  cbv
  refine⟨Nb Kp,Mb Kq,?_⟩
  refine⟨[tA (qGOcc Jj)],Gb Kr,?_⟩
  cbv
  exact Rb
 cbv
 obtain⟨Ks,hh⟩:=ae hh
 obtain⟨Kt,Ku,hh⟩:=ag hh
 obtain⟨Kv,hh⟩:=ae hh
 obtain⟨Kw,hh⟩:=ae hh
 obtain⟨Jk,Kx,hh⟩:=ag hh
 refine⟨[(5,0),(9,0),(1007,50),(1014,0)],?_⟩
 cbv
 refine⟨tA (qGOcc Jk),?_,?_⟩
 ·refine eD hC (bH [] [185] [216]) mixed (ts:=[(4,none)]) Tryz.func216 (by kernel_rfl) (by kernel_rfl) ?_
  intro S N
  cbv
  refine⟨_,Gk (aM qInt qGOcc) b,?_⟩
  cbv
  refine⟨[iA Kt],Nb Ks,Gb Ku,?_⟩
  cbv
  refine⟨Nb Kv,Mb Kw,?_⟩
  refine⟨[tA (qGOcc Jk)],Gb Kx,?_⟩
  cbv
  exact Rb
 cbv
 obtain⟨⟨⟨I,J⟩,Iy⟩,Ky,hh⟩:=ag hh
 try dsimp only at hh
 have fc:=pt hQ Ky
 try dsimp only at fc
 refine ak hF fc ?_
 cbv
 refine⟨[iA c,iA d,iA j,tA (qInt o),tA (qGOcc t),tA (qGOcc u),tA (qGOcc v),tA (qGOcc w),tA (qGOcc s),iA p],Gb b,?_⟩
 cbv
 refine⟨⟨⟨[(0,mA (0,0)),(1,iA p1),(2,.lit (.pointer none)),(7,rA (7,50) (len (qLGOcc z))),(9,.mptr (14,0) 1 (nadd 0 (toNat y)) 0),(15,iA (cast (len (qGNode p0b)))),(16,iA y),(30,tA (qGOcc Iy)),(1000000,mA (0,0))],[((0,0),.box 1 [iA p0a,rA (14,0) (len (qGNode A)),iA p0c,iA p0d,bA B]),((7,50),.arr 1 1 (qLGOcc z)),((14,0),.arr 1 10 (set (qGNode A) (nadd 0 (toNat y)) [iA c,iA d,iA j,tA (qInt o),tA (qGOcc t),tA (qGOcc u),tA (qGOcc I),tA (qGOcc J),tA (qGOcc s),iA p]))]⟩,?_,?_⟩,trivial⟩
 ·refine bm [((0,0),(1000,0)),((7,50),(1007,50)),((14,0),(1014,0))] ?_
  cbv
  all_goals exact Zb
 cbv
 obtain⟨Kz,hh⟩:=ae hh
 refine⟨⟨Ob,Ab⟩,?_⟩
 refine⟨⟨Ob,Wb Kz⟩,?_⟩
 refine⟨[iA c,iA d,iA j,tA (qInt o),tA (qGOcc t),tA (qGOcc u),tA (qGOcc I),tA (qGOcc J),tA (qGOcc s),iA p],Gb2 b ((List.getElem?_eq_some_iff.1 b).1),?_⟩
 cbv
 refine⟨[iA c,iA d,iA j,tA (qInt o),tA (qGOcc t),tA (qGOcc u),tA (qGOcc I),tA (qGOcc J),tA (qGOcc s),iA p],Gb2 b ((List.getElem?_eq_some_iff.1 b).1),?_⟩
 cbv
 refine bcs (fun Z=>?_) (fun Z=>?_)
 replace hh:=ifT hh Z
 try rw[Z]
 cbv
 exact hN1 (_,_,_,_) _ hh fun⟨t0,t1,t2,t3⟩ e=>kA
 replace hh:=ifF hh Z
 try rw[Z]
 cbv
 refine⟨[iA c,iA d,iA j,tA (qInt o),tA (qGOcc t),tA (qGOcc u),tA (qGOcc I),tA (qGOcc J),tA (qGOcc s),iA (wrap .i64 (add p (cast (len (qGOcc Iy)))))],Gb2 b ((List.getElem?_eq_some_iff.1 b).1),?_⟩
 cbv
 exact hN1 (_,_,_,_) _ hh fun⟨t0,t1,t2,t3⟩ e=>kA
 replace hh:=ifF hh Y
 try rw[Y]
 cbv
 refine bcs (fun eS=>?_) (fun eS=>?_)
 replace hh:=ifT hh eS
 try rw[eS]
 cbv
 refine⟨_,Gk (aM qInt qGOcc) b,?_⟩
 cbv
 obtain⟨KA,hh⟩:=ae hh
 obtain⟨KC,KD,hh⟩:=ag hh
 obtain⟨KE,hh⟩:=ae hh
 obtain⟨KG,hh⟩:=ae hh
 obtain⟨Jl,KH,hh⟩:=ag hh
 refine⟨[(5,0),(9,0),(1007,50),(1014,0)],?_⟩
 cbv
 refine⟨tA (qGOcc Jl),?_,?_⟩
 ·refine eD hC (bH [] [185] [216]) mixed (ts:=[(4,none)]) Tryz.func216 (by kernel_rfl) (by kernel_rfl) ?_
  intro S N
  cbv
  refine⟨_,Gk (aM qInt qGOcc) b,?_⟩
  cbv
  refine⟨[iA KC],Nb KA,Gb KD,?_⟩
  cbv
  refine⟨Nb KE,Mb KG,?_⟩
  refine⟨[tA (qGOcc Jl)],Gb KH,?_⟩
  cbv
  exact Rb
 cbv
 obtain⟨KJ,hh⟩:=ae hh
 obtain⟨KK,KL,hh⟩:=ag hh
 obtain⟨KM,hh⟩:=ae hh
 obtain⟨KN,hh⟩:=ae hh
 obtain⟨Jn,KO,hh⟩:=ag hh
 refine⟨[(5,0),(9,0),(1007,50),(1014,0)],?_⟩
 cbv
 refine⟨tA (qGOcc Jn),?_,?_⟩
 ·refine eD hC (bH [] [185] [216]) mixed (ts:=[(4,none)]) Tryz.func216 (by kernel_rfl) (by kernel_rfl) ?_
  intro S N
  cbv
  refine⟨_,Gk (aM qInt qGOcc) b,?_⟩
  cbv
  refine⟨[iA KK],Nb KJ,Gb KL,?_⟩
  cbv
  refine⟨Nb KM,Mb KN,?_⟩
  refine⟨[tA (qGOcc Jn)],Gb KO,?_⟩
  cbv
  exact Rb
 cbv
 obtain⟨KP,hh⟩:=ae hh
 obtain⟨KQ,KR,hh⟩:=ag hh
 obtain⟨KS,hh⟩:=ae hh
 obtain⟨KT,hh⟩:=ae hh
 obtain⟨Jo,KU,hh⟩:=ag hh
 refine⟨[(5,0),(9,0),(1007,50),(1014,0)],?_⟩
 cbv
 refine⟨tA (qGOcc Jo),?_,?_⟩
 ·refine eD hC (bH [] [185] [216]) mixed (ts:=[(4,none)]) Tryz.func216 (by kernel_rfl) (by kernel_rfl) ?_
  intro S N
  cbv
  refine⟨_,Gk (aM qInt qGOcc) b,?_⟩
  cbv
  refine⟨[iA KQ],Nb KP,Gb KR,?_⟩
  cbv
  refine⟨Nb KS,Mb KT,?_⟩
  refine⟨[tA (qGOcc Jo)],Gb KU,?_⟩
  cbv
  exact Rb
 cbv
 obtain⟨⟨⟨K,L⟩,Iz⟩,KV,hh⟩:=ag hh
 try dsimp only at hh
 have fc:=oe hQ KV
 try dsimp only at fc
 refine ak hF fc ?_
 cbv
 refine⟨[iA c,iA d,iA j,tA (qInt o),tA (qGOcc t),tA (qGOcc u),tA (qGOcc v),tA (qGOcc w),tA (qGOcc s),iA p],Gb b,?_⟩
 cbv
 refine⟨⟨⟨[(0,mA (0,0)),(1,iA p1),(2,.lit (.pointer none)),(7,rA (7,50) (len (qLGOcc z))),(9,.mptr (14,0) 1 (nadd 0 (toNat y)) 0),(15,iA (cast (len (qGNode p0b)))),(16,iA y),(30,tA (qGOcc Iz)),(1000000,mA (0,0))],[((0,0),.box 1 [iA p0a,rA (14,0) (len (qGNode A)),iA p0c,iA p0d,bA B]),((7,50),.arr 1 1 (qLGOcc z)),((14,0),.arr 1 10 (set (qGNode A) (nadd 0 (toNat y)) [iA c,iA d,iA j,tA (qInt o),tA (qGOcc t),tA (qGOcc u),tA (qGOcc K),tA (qGOcc L),tA (qGOcc s),iA p]))]⟩,?_,?_⟩,trivial⟩
 ·refine bm [((0,0),(1000,0)),((7,50),(1007,50)),((14,0),(1014,0))] ?_
  cbv
  all_goals exact Zb
 cbv
 obtain⟨KW,hh⟩:=ae hh
 refine⟨⟨Ob,Ab⟩,?_⟩
 refine⟨⟨Ob,Wb KW⟩,?_⟩
 refine⟨[iA c,iA d,iA j,tA (qInt o),tA (qGOcc t),tA (qGOcc u),tA (qGOcc K),tA (qGOcc L),tA (qGOcc s),iA p],Gb2 b ((List.getElem?_eq_some_iff.1 b).1),?_⟩
 cbv
 refine⟨[iA c,iA d,iA j,tA (qInt o),tA (qGOcc t),tA (qGOcc u),tA (qGOcc K),tA (qGOcc L),tA (qGOcc s),iA p],Gb2 b ((List.getElem?_eq_some_iff.1 b).1),?_⟩
 cbv
 refine bcs (fun HP=>?_) (fun HP=>?_)
 replace hh:=ifT hh HP
 try rw[HP]
 cbv
 exact hN1 (_,_,_,_) _ hh fun⟨t0,t1,t2,t3⟩ e=>kA
 replace hh:=ifF hh HP
 try rw[HP]
 cbv
 refine⟨[iA c,iA d,iA j,tA (qInt o),tA (qGOcc t),tA (qGOcc u),tA (qGOcc K),tA (qGOcc L),tA (qGOcc s),iA (wrap .i64 (add p (cast (len (qGOcc Iz)))))],Gb2 b ((List.getElem?_eq_some_iff.1 b).1),?_⟩
 cbv
 exact hN1 (_,_,_,_) _ hh fun⟨t0,t1,t2,t3⟩ e=>kA
 replace hh:=ifF hh eS
 try rw[eS]
 cbv
 refine⟨_,Gk (aM qInt qGOcc) b,?_⟩
 cbv
 obtain⟨Ia,KX,hh⟩:=ag hh
 refine ak hF (ah.frz (r':=tA (qGOcc Ia)) (yZ hQ KX) (by cases hQ;simp)) ?_
 cbv
 refine⟨_,Gk (aM qInt qGOcc) b,?_⟩
 cbv
 obtain⟨Jp,KY,hh⟩:=ag hh
 refine ak hF (ah.frz (r':=tA (qGOcc Jp)) (im hQ (g1:=fun y0=>eh.f y0 p1) (fun h=>m9 hQ h) KY) (by cases hQ;simp)) ?_
 cbv
 refine⟨[iA c,iA d,iA j,tA (qInt o),tA (qGOcc t),tA (qGOcc u),tA (qGOcc v),tA (qGOcc w),tA (qGOcc s),iA p],Gb b,?_⟩
 cbv
 obtain⟨KZ,hh⟩:=ae hh
 obtain⟨K3,K4,hh⟩:=ag hh
 obtain⟨K5,hh⟩:=ae hh
 obtain⟨K6,hh⟩:=ae hh
 obtain⟨Ic,K7,hh⟩:=ag hh
 refine⟨[(5,0),(9,0),(1007,50),(1014,0)],?_⟩
 cbv
 refine⟨tA (qGOcc Ic),?_,?_⟩
 ·refine eD hC (bH [] [185] [216]) mixed (ts:=[(4,none)]) Tryz.func216 (by kernel_rfl) (by kernel_rfl) ?_
  intro S N
  cbv
  refine⟨[iA c,iA d,iA j,tA (qInt o),tA (qGOcc t),tA (qGOcc u),tA (qGOcc v),tA (qGOcc w),tA (qGOcc Jp),iA p],Gb2 b ((List.getElem?_eq_some_iff.1 b).1),?_⟩
  cbv
  refine⟨[iA K3],Nb KZ,Gb K4,?_⟩
  cbv
  refine⟨Nb K5,Mb K6,?_⟩
  refine⟨[tA (qGOcc Ic)],Gb K7,?_⟩
  cbv
  exact Rb
 cbv
 obtain⟨o2,Lc,hq2⟩:=ag hh
 refine lgq [] [185] [216] hC (U2 (aj.l2 k Ic y))
  (fun⟨II,Jq⟩=>⟨[(5,mA (5,0)),(12,tA (qGOcc Ia)),(36,tA (qGOcc Ic)),(37,iA (cast (len (qGOcc Ic)))),(38,iA Jq),(2000000,mA (1000,0)),(2000001,iA p1),(2000002,.lit (.pointer none)),(2000007,rA (1007,50) (len (qLGOcc z))),(2000009,.mptr (1014,0) 1 (nadd 0 (toNat y)) 0),(2000015,iA (cast (len (qGNode p0b)))),(2000016,iA y),(3000000,mA (1000,0))],[((5,0),.box 1 [.mptr (1014,0) 1 (nadd 0 (toNat y)) 0]),((1000,0),.box 1 [iA p0a,rA (1014,0) (len (qGNode II)),iA p0c,iA p0d,bA B]),((1007,50),.arr 1 1 (qLGOcc z)),((1014,0),.arr 1 10 (qGNode II))]⟩)
  (fun(Io:List GNode)=>⟨[(12,tA (qGOcc Ia)),(2000000,mA (1000,0)),(2000001,iA p1),(2000002,.lit (.pointer none)),(2000007,rA (1007,50) (len (qLGOcc z))),(2000009,.mptr (1014,0) 1 (nadd 0 (toNat y)) 0),(2000015,iA (cast (len (qGNode p0b)))),(2000016,iA y),(3000000,mA (1000,0))],[((1000,0),.box 1 [iA p0a,rA (1014,0) (len (qGNode Io)),iA p0c,iA p0d,bA B]),((1007,50),.arr 1 1 (qLGOcc z)),((1014,0),.arr 1 10 (qGNode Io))]⟩) (fun x=>x) (.exit 1)
  (i0:=(_,_)) Lc (fun⟨t0,t1⟩ e=>kA) ?_ ?_
 rintro Io hx
 subst o2
 have hh:=hq2
 cbv
 refine⟨⟨⟨[(0,mA (0,0)),(1,iA p1),(2,.lit (.pointer none)),(7,rA (7,50) (len (qLGOcc z))),(9,.mptr (14,0) 1 (nadd 0 (toNat y)) 0),(15,iA (cast (len (qGNode p0b)))),(16,iA y),(30,tA (qGOcc Ia)),(1000000,mA (0,0))],[((0,0),.box 1 [iA p0a,rA (14,0) (len (qGNode Io)),iA p0c,iA p0d,bA B]),((7,50),.arr 1 1 (qLGOcc z)),((14,0),.arr 1 10 (qGNode Io))]⟩,?_,?_⟩,trivial⟩
 ·refine bm [((0,0),(1000,0)),((7,50),(1007,50)),((14,0),(1014,0))] ?_
  cbv
  all_goals exact Zb
 cbv
 obtain⟨K8,hh⟩:=ae hh
 refine⟨⟨Ob,Ab⟩,?_⟩
 refine⟨⟨Ob,Wb K8⟩,?_⟩
 obtain⟨⟨IJ,IL,IP,IR,⟨IT,IU⟩,⟨IW,IX⟩,I1,I3⟩,Iv,hh⟩:=ag hh
 try dsimp only at hh
 refine⟨_,Gk (aM qInt qGOcc) Iv,?_⟩
 cbv
 refine⟨[iA IJ,iA IL,iA IP,tA (qInt IR),tA (qGOcc IT),tA (qGOcc IU),tA (qGOcc IW),tA (qGOcc IX),tA (qGOcc I1),iA I3],Gb Iv,?_⟩
 cbv
 refine bcs (fun Is=>?_) (fun Is=>?_)
 replace hh:=ifT hh Is
 try rw[Is]
 cbv
 exact hN1 (_,_,_,_) _ hh fun⟨t0,t1,t2,t3⟩ e=>kA
 replace hh:=ifF hh Is
 try rw[Is]
 cbv
 refine⟨[iA IJ,iA IL,iA IP,tA (qInt IR),tA (qGOcc IT),tA (qGOcc IU),tA (qGOcc IW),tA (qGOcc IX),tA (qGOcc I1),iA (wrap .i64 (add I3 (cast (len (qGOcc Ia)))))],Gb2 Iv ((List.getElem?_eq_some_iff.1 Iv).1),?_⟩
 cbv
 exact hN1 (_,_,_,_) _ hh fun⟨t0,t1,t2,t3⟩ e=>kA
 rintro n ⟨II,Jq⟩ N2 D2 hh hN2 hD2 hQ2
 dsimp only[U2] at hh
 unfold aj.l2 at hh
 cbv
 refine bcs (fun It=>?_) (fun It=>?_)
 replace hh:=ifT hh It
 try rw[It]
 cbv
 obtain⟨K9,hh⟩:=ae hh
 obtain⟨⟨Js,Jt,Ju⟩,La,hh⟩:=ag hh
 try dsimp only at hh
 refine⟨[iA Js,iA Jt,tA (qInt Ju)],Nb K9,Gb La,?_⟩
 cbv
 obtain⟨⟨Ld,Le,Lf,Lg,⟨Lh,Li⟩,⟨Lj,Lk⟩,Ll,Lm⟩,Jr,hh⟩:=ag hh
 try dsimp only at hh
 refine⟨_,Gk (aM qInt qGOcc) Jr,?_⟩
 cbv
 refine⟨_,Gk (aM qInt qGOcc) Jr,?_⟩
 cbv
 have c1:=@sI
 have c2:=@lU
 exact D
 replace hh:=ifF hh It
 try rw[It]
 cbv
 exact hD2 _ _ hh fun t0 e=>kA
 replace hh:=ifF hh M
 try rw[M]
 cbv
 exact hD1 (_,_,_) _ hh fun⟨t0,t1,t2⟩ e=>kA

end Go.Proofs.YtlbnmldopjadoaaGreat
