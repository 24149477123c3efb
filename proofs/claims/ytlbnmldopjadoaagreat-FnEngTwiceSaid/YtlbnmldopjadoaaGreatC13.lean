/- The functions of this program do what the plain ones do. -/
import Derived.Test.YtlbnmldopjadoaaGreatC12
namespace Go.Proofs.YtlbnmldopjadoaaGreat
open Go Go.Vm
set_option linter.unusedVariables false
set_option maxHeartbeats 4000000
set_option maxRecDepth 4000
variable {qIu8:Vm.RW Int} {qGEx:Vm.RW GEx} {qGRule:Vm.RW GRule} {qStr:Vm.RW ByteArray} {qInt:Vm.RW Int} {qGExO:Vm.RW GEx} {qGOcc:Vm.RW GOcc} {qGNode:Vm.RW GNode} {qGNodeS:Vm.RW GNode} {qGGraphS2:Vm.RW GGraph} {qGGraph:Vm.RW GGraph} {qGEv:Vm.RW GEv} {qGFire:Vm.RW GFire} {qGOccO:Vm.RW GOcc} {qLGOcc:Vm.RW (List GOcc)} {qBool:Vm.RW Bool} {qGGraphS:Vm.RW GGraph} {qLInt:Vm.RW (List Int)} (hQ:EQ qIu8 qGEx qGRule qStr qInt qGExO qGOcc qGNode qGNodeS qGGraphS2 qGGraph qGEv qGFire qGOccO qLGOcc qBool qGGraphS qLInt)
include hQ
theorem oW {k:Nat} {p0:GGraph} {p1:Int} {r:(List GOcc)×GGraph} (hh:aj.f k p0 p1=some r):ah P 130 [.obox [iA p0.Mode,oA 10 (qGNode p0.Nodes),iA p0.Seen,iA p0.Now,bA p0.Full],iA p1,.lit (.pointer none)] [.obox [iA r.2.Mode,oA 10 (qGNode r.2.Nodes),iA r.2.Seen,iA r.2.Now,bA r.2.Full],hA,hA] (tA (qGOcc r.1)):=by
 obtain⟨p0a,p0b,p0c,p0d,p0e⟩:=p0
 unfold aj.f at hh
 refine gq [] [185] [216] [(6,none)] [.val] [.own,.skip,.skip] Tryz.func130 ?_
 unhygienic intros
 cbv
 obtain⟨o1,Ld,hq1⟩:=ag hh
 refine lgq [] [185] [216] hC (U4 (aj.l1 k (⟨p0a,p0b,p0c,p0d,p0e⟩:GGraph) p1))
  (fun⟨A,B,z,y⟩=>⟨[(0,mA (0,0)),(1,iA p1),(2,.lit (.pointer none)),(7,rA (7,50) (len (qLGOcc z))),(15,iA (cast (len (qGNode p0b)))),(16,iA y),(1000000,mA (0,0))],[((0,0),.box 1 [iA p0a,rA (14,0) (len (qGNode A)),iA p0c,iA p0d,bA B]),((7,50),.arr 1 1 (qLGOcc z)),((14,0),.arr 1 10 (qGNode A))]⟩)
  (fun⟨IF,IJ,I8⟩=>⟨[(7,rA (7,50) (len (qLGOcc IF))),(1000000,mA (0,0))],[((0,0),.box 1 [iA p0a,rA (14,0) (len (qGNode IJ)),iA p0c,iA p0d,bA I8]),((7,50),.arr 1 1 (qLGOcc IF)),((14,0),.arr 1 10 (qGNode IJ))]⟩) (fun x=>x) (.exit 0)
  (i0:=(_,_,_,_)) Ld (fun⟨t0,t1,t2,t3⟩ e=>kA) ?_ ?_
 rintro⟨IF,IJ,I8⟩ hx
 subst o1
 have hh:=hq1
 cbv
 obtain⟨Lq,hh⟩:=ae hh
 exact D
 rintro n ⟨A,B,z,y⟩ N1 D1 hh hN1 hD1 hQ1
 dsimp only[U4] at hh
 unfold aj.l1 at hh
 cbv
 refine bcs (fun M=>?_) (fun M=>?_)
 replace hh:=ifT hh M
 try rw[M]
 cbv
 obtain⟨Jx,hh⟩:=ae hh
 obtain⟨Jy,hh⟩:=ae hh
 refine⟨Nb Jx,Mb Jy,?_⟩
 refine AP hC (bH [] [185] [216]) mixed (ts:=[(10,none)]) ⟨[(0,.mptr (1014,0) 1 (nadd 0 (toNat y)) 0),(1,mA (1000,0)),(2,iA p1),(3,.lit (.pointer none)),(4,rA (1007,50) (len (qLGOcc z))),(2000000,mA (1000,0)),(2000001,iA p1),(2000002,.lit (.pointer none)),(2000007,rA (1007,50) (len (qLGOcc z))),(2000009,.mptr (1014,0) 1 (nadd 0 (toNat y)) 0),(2000015,iA (cast (len (qGNode p0b)))),(2000016,iA y),(3000000,mA (1000,0))],[((1000,0),.box 1 [iA p0a,rA (1014,0) (len (qGNode A)),iA p0c,iA p0d,bA B]),((1007,50),.arr 1 1 (qLGOcc z)),((1014,0),.arr 1 10 (qGNode A))]⟩ Tryz.func185 (by kernel_rfl) (by kernel_rfl) ?_ ?_
 ·refine bk [((1000,0),(0,0)),((1007,50),(7,50)),((1014,0),(14,0))] ?_
  cbv
  all_goals exact Zb
 cbv
 obtain⟨⟨c,d,j,o,⟨t,u⟩,⟨v,w⟩,s,p⟩,b,hh⟩:=ag hh
 try dsimp only at hh
 refine⟨_,Gk (aM qInt qGOcc) b,?_⟩
 cbv
 refine bcs (fun O=>?_) (fun O=>?_)
 replace hh:=ifT hh O
 try rw[O]
 cbv
 refine⟨⟨⟨[(0,mA (0,0)),(1,iA p1),(2,.lit (.pointer none)),(7,rA (7,50) (len (qLGOcc z))),(9,.mptr (14,0) 1 (nadd 0 (toNat y)) 0),(15,iA (cast (len (qGNode p0b)))),(16,iA y),(30,zA),(1000000,mA (0,0))],[((0,0),.box 1 [iA p0a,rA (14,0) (len (qGNode A)),iA p0c,iA p0d,bA B]),((7,50),.arr 1 1 (qLGOcc z)),((14,0),.arr 1 10 (qGNode A))]⟩,?_,?_⟩,trivial⟩
 ·refine bk [((0,0),(1000,0)),((7,50),(1007,50)),((14,0),(1014,0))] ?_
  cbv
  all_goals exact Zb
 cbv
 refine⟨none,?_⟩;try cbv
 obtain⟨JA,hh⟩:=ae hh
 refine⟨⟨Ob,Ab⟩,?_⟩
 refine⟨⟨Ob,Wb JA⟩,?_⟩
 refine⟨_,Gk (aM qInt qGOcc) b,?_⟩
 cbv
 refine⟨[iA c,iA d,iA j,tA (qInt o),tA (qGOcc t),tA (qGOcc u),tA (qGOcc v),tA (qGOcc w),tA (qGOcc s),iA p],Gb b,?_⟩
 cbv
 refine bcs (fun Q=>?_) (fun Q=>?_)
 replace hh:=ifT hh Q
 try rw[Q]
 cbv
 exact hN1 (_,_,_,_) _ hh fun⟨t0,t1,t2,t3⟩ e=>kA
 replace hh:=ifF hh Q
 try rw[Q]
 cbv
 refine⟨[iA c,iA d,iA j,tA (qInt o),tA (qGOcc t),tA (qGOcc u),tA (qGOcc v),tA (qGOcc w),tA (qGOcc s),iA (wrap .i64 (add p 0))],Gb2 b ((List.getElem?_eq_some_iff.1 b).1),?_⟩
 cbv
 exact hN1 (_,_,_,_) _ hh fun⟨t0,t1,t2,t3⟩ e=>kA
 replace hh:=ifF hh O
 try rw[O]
 cbv
 refine bcs (fun R=>?_) (fun R=>?_)
 replace hh:=ifT hh R
 try rw[R]
 cbv
 obtain⟨JB,hh⟩:=ae hh
 obtain⟨JC,JD,hh⟩:=ag hh
 obtain⟨JE,hh⟩:=ae hh
 obtain⟨JF,hh⟩:=ae hh
 obtain⟨Jd,JG,hh⟩:=ag hh
 refine⟨[(5,0),(9,0),(1007,50),(1014,0)],?_⟩
 cbv
 refine⟨tA (qGOcc Jd),?_,?_⟩
 ·refine eC hC (bH [] [185] [216]) mixed (ts:=[(4,none)]) Tryz.func216 (by kernel_rfl) (by kernel_rfl) ?_
  intro S N
  cbv
  refine⟨_,Gk (aM qInt qGOcc) b,?_⟩
  cbv
  refine⟨[iA JC],Nb JB,Gb JD,?_⟩
  cbv
  refine⟨Nb JE,Mb JF,?_⟩
  refine⟨[tA (qGOcc Jd)],Gb JG,?_⟩
  cbv
  exact Rb
 cbv
 obtain⟨JH,hh⟩:=ae hh
 obtain⟨JI,JJ,hh⟩:=ag hh
 obtain⟨JK,hh⟩:=ae hh
 obtain⟨JL,hh⟩:=ae hh
 obtain⟨Je,JM,hh⟩:=ag hh
 refine⟨[(5,0),(9,0),(1007,50),(1014,0)],?_⟩
 cbv
 refine⟨tA (qGOcc Je),?_,?_⟩
 ·refine eC hC (bH [] [185] [216]) mixed (ts:=[(4,none)]) Tryz.func216 (by kernel_rfl) (by kernel_rfl) ?_
  intro S N
  cbv
  refine⟨_,Gk (aM qInt qGOcc) b,?_⟩
  cbv
  refine⟨[iA JI],Nb JH,Gb JJ,?_⟩
  cbv
  refine⟨Nb JK,Mb JL,?_⟩
  refine⟨[tA (qGOcc Je)],Gb JM,?_⟩
  cbv
  exact Rb
 cbv
 obtain⟨Jf,JN,hh⟩:=ag hh
 refine ak hF (en hQ JN) ?_
 cbv
 refine⟨⟨⟨[(0,mA (0,0)),(1,iA p1),(2,.lit (.pointer none)),(7,rA (7,50) (len (qLGOcc z))),(9,.mptr (14,0) 1 (nadd 0 (toNat y)) 0),(15,iA (cast (len (qGNode p0b)))),(16,iA y),(30,tA (qGOcc Jf)),(1000000,mA (0,0))],[((0,0),.box 1 [iA p0a,rA (14,0) (len (qGNode A)),iA p0c,iA p0d,bA B]),((7,50),.arr 1 1 (qLGOcc z)),((14,0),.arr 1 10 (qGNode A))]⟩,?_,?_⟩,trivial⟩
 ·refine bk [((0,0),(1000,0)),((7,50),(1007,50)),((14,0),(1014,0))] ?_
  cbv
  all_goals exact Zb
 cbv
 obtain⟨JO,hh⟩:=ae hh
 refine⟨⟨Ob,Ab⟩,?_⟩
 refine⟨⟨Ob,Wb JO⟩,?_⟩
 refine⟨_,Gk (aM qInt qGOcc) b,?_⟩
 cbv
 refine⟨[iA c,iA d,iA j,tA (qInt o),tA (qGOcc t),tA (qGOcc u),tA (qGOcc v),tA (qGOcc w),tA (qGOcc s),iA p],Gb b,?_⟩
 cbv
 refine bcs (fun T=>?_) (fun T=>?_)
 replace hh:=ifT hh T
 try rw[T]
 cbv
 exact hN1 (_,_,_,_) _ hh fun⟨t0,t1,t2,t3⟩ e=>kA
 replace hh:=ifF hh T
 try rw[T]
 cbv
 refine⟨[iA c,iA d,iA j,tA (qInt o),tA (qGOcc t),tA (qGOcc u),tA (qGOcc v),tA (qGOcc w),tA (qGOcc s),iA (wrap .i64 (add p (cast (len (qGOcc Jf)))))],Gb2 b ((List.getElem?_eq_some_iff.1 b).1),?_⟩
 cbv
 exact hN1 (_,_,_,_) _ hh fun⟨t0,t1,t2,t3⟩ e=>kA
 replace hh:=ifF hh R
 try rw[R]
 cbv
 refine bcs (fun U=>?_) (fun U=>?_)
 replace hh:=ifT hh U
 try rw[U]
 cbv
 refine⟨_,Gk (aM qInt qGOcc) b,?_⟩
 cbv
 obtain⟨JP,hh⟩:=ae hh
 obtain⟨JQ,JR,hh⟩:=ag hh
 obtain⟨JS,hh⟩:=ae hh
 obtain⟨JT,hh⟩:=ae hh
 obtain⟨Jg,JU,hh⟩:=ag hh
 refine⟨[(5,0),(9,0),(1007,50),(1014,0)],?_⟩
 cbv
 refine⟨tA (qGOcc Jg),?_,?_⟩
 ·refine eC hC (bH [] [185] [216]) mixed (ts:=[(4,none)]) Tryz.func216 (by kernel_rfl) (by kernel_rfl) ?_
  intro S N
  cbv
  refine⟨_,Gk (aM qInt qGOcc) b,?_⟩
  cbv
  refine⟨[iA JQ],Nb JP,Gb JR,?_⟩
  cbv
  refine⟨Nb JS,Mb JT,?_⟩
  refine⟨[tA (qGOcc Jg)],Gb JU,?_⟩
  cbv
  exact Rb
 cbv
 obtain⟨JV,hh⟩:=ae hh
 obtain⟨JW,JX,hh⟩:=ag hh
 obtain⟨JY,hh⟩:=ae hh
 obtain⟨JZ,hh⟩:=ae hh
 obtain⟨Jh,J0,hh⟩:=ag hh
 refine⟨[(5,0),(9,0),(1007,50),(1014,0)],?_⟩
 cbv
 refine⟨tA (qGOcc Jh),?_,?_⟩
 ·refine eC hC (bH [] [185] [216]) mixed (ts:=[(4,none)]) Tryz.func216 (by kernel_rfl) (by kernel_rfl) ?_
  intro S N
  cbv
  refine⟨_,Gk (aM qInt qGOcc) b,?_⟩
  cbv
  refine⟨[iA JW],Nb JV,Gb JX,?_⟩
  cbv
  refine⟨Nb JY,Mb JZ,?_⟩
  refine⟨[tA (qGOcc Jh)],Gb J0,?_⟩
  cbv
  exact Rb
 cbv
 obtain⟨⟨⟨C,F⟩,Iz⟩,J1,hh⟩:=ag hh
 try dsimp only at hh
 have fc:=ph hQ J1
 try dsimp only at fc
 refine ak hF fc ?_
 cbv
 refine⟨[iA c,iA d,iA j,tA (qInt o),tA (qGOcc t),tA (qGOcc u),tA (qGOcc v),tA (qGOcc w),tA (qGOcc s),iA p],Gb b,?_⟩
 cbv
 refine⟨⟨⟨[(0,mA (0,0)),(1,iA p1),(2,.lit (.pointer none)),(7,rA (7,50) (len (qLGOcc z))),(9,.mptr (14,0) 1 (nadd 0 (toNat y)) 0),(15,iA (cast (len (qGNode p0b)))),(16,iA y),(30,tA (qGOcc Iz)),(1000000,mA (0,0))],[((0,0),.box 1 [iA p0a,rA (14,0) (len (qGNode A)),iA p0c,iA p0d,bA B]),((7,50),.arr 1 1 (qLGOcc z)),((14,0),.arr 1 10 (set (qGNode A) (nadd 0 (toNat y)) [iA c,iA d,iA j,tA (qInt o),tA (qGOcc C),tA (qGOcc F),tA (qGOcc v),tA (qGOcc w),tA (qGOcc s),iA p]))]⟩,?_,?_⟩,trivial⟩
 ·refine bk [((0,0),(1000,0)),((7,50),(1007,50)),((14,0),(1014,0))] ?_
  cbv
  all_goals exact Zb
 cbv
 obtain⟨J2,hh⟩:=ae hh
 refine⟨⟨Ob,Ab⟩,?_⟩
 refine⟨⟨Ob,Wb J2⟩,?_⟩
 refine⟨[iA c,iA d,iA j,tA (qInt o),tA (qGOcc C),tA (qGOcc F),tA (qGOcc v),tA (qGOcc w),tA (qGOcc s),iA p],Gb2 b ((List.getElem?_eq_some_iff.1 b).1),?_⟩
 cbv
 refine⟨[iA c,iA d,iA j,tA (qInt o),tA (qGOcc C),tA (qGOcc F),tA (qGOcc v),tA (qGOcc w),tA (qGOcc s),iA p],Gb2 b ((List.getElem?_eq_some_iff.1 b).1),?_⟩
 cbv
 refine bcs (fun V=>?_) (fun V=>?_)
 replace hh:=ifT hh V
 try rw[V]
 cbv
 exact hN1 (_,_,_,_) _ hh fun⟨t0,t1,t2,t3⟩ e=>kA
 replace hh:=ifF hh V
 try rw[V]
 cbv
 refine⟨[iA c,iA d,iA j,tA (qInt o),tA (qGOcc C),tA (qGOcc F),tA (qGOcc v),tA (qGOcc w),tA (qGOcc s),iA (wrap .i64 (add p (cast (len (qGOcc Iz)))))],Gb2 b ((List.getElem?_eq_some_iff.1 b).1),?_⟩
 cbv
 exact hN1 (_,_,_,_) _ hh fun⟨t0,t1,t2,t3⟩ e=>kA
 replace hh:=ifF hh U
 try rw[U]
 cbv
 refine bcs (fun W=>?_) (fun W=>?_)
 replace hh:=ifT hh W
 try rw[W]
 cbv
 refine⟨_,Gk (aM qInt qGOcc) b,?_⟩
 cbv
 obtain⟨J3,hh⟩:=ae hh
 obtain⟨J4,J5,hh⟩:=ag hh
 obtain⟨J6,hh⟩:=ae hh
 obtain⟨J7,hh⟩:=ae hh
 obtain⟨Ji,J8,hh⟩:=ag hh
 refine⟨[(5,0),(9,0),(1007,50),(1014,0)],?_⟩
 cbv
 refine⟨tA (qGOcc Ji),?_,?_⟩
 ·refine eC hC (bH [] [185] [216]) mixed (ts:=[(4,none)]) Tryz.func216 (by kernel_rfl) (by kernel_rfl) ?_
  intro S N
  cbv
  refine⟨_,Gk (aM qInt qGOcc) b,?_⟩
  cbv
  refine⟨[iA J4],Nb J3,Gb J5,?_⟩
  cbv
  refine⟨Nb J6,Mb J7,?_⟩
  refine⟨[tA (qGOcc Ji)],Gb J8,?_⟩
  cbv
  exact Rb
 cbv
 obtain⟨J9,hh⟩:=ae hh
 obtain⟨Ka,Kb,hh⟩:=ag hh
 obtain⟨Kc,hh⟩:=ae hh
 obtain⟨Kd,hh⟩:=ae hh
 obtain⟨Jj,Ke,hh⟩:=ag hh
 refine⟨[(5,0),(9,0),(1007,50),(1014,0)],?_⟩
 cbv
 refine⟨tA (qGOcc Jj),?_,?_⟩
 ·refine eC hC (bH [] [185] [216]) mixed (ts:=[(4,none)]) Tryz.func216 (by kernel_rfl) (by kernel_rfl) ?_
  intro S N
  cbv
  refine⟨_,Gk (aM qInt qGOcc) b,?_⟩
  cbv
  refine⟨[iA Ka],Nb J9,Gb Kb,?_⟩
  cbv
  refine⟨Nb Kc,Mb Kd,?_⟩
  refine⟨[tA (qGOcc Jj)],Gb Ke,?_⟩
  cbv
  exact Rb
 cbv
 obtain⟨⟨⟨G,H⟩,IA⟩,Kf,hh⟩:=ag hh
 try dsimp only at hh
 have fc:=pr hQ Kf
 try dsimp only at fc
 refine ak hF fc ?_
 cbv
 refine⟨[iA c,iA d,iA j,tA (qInt o),tA (qGOcc t),tA (qGOcc u),tA (qGOcc v),tA (qGOcc w),tA (qGOcc s),iA p],Gb b,?_⟩
 cbv
 refine⟨⟨⟨[(0,mA (0,0)),(1,iA p1),(2,.lit (.pointer none)),(7,rA (7,50) (len (qLGOcc z))),(9,.mptr (14,0) 1 (nadd 0 (toNat y)) 0),(15,iA (cast (len (qGNode p0b)))),(16,iA y),(30,tA (qGOcc IA)),(1000000,mA (0,0))],[((0,0),.box 1 [iA p0a,rA (14,0) (len (qGNode A)),iA p0c,iA p0d,bA B]),((7,50),.arr 1 1 (qLGOcc z)),((14,0),.arr 1 10 (set (qGNode A) (nadd 0 (toNat y)) [iA c,iA d,iA j,tA (qInt o),tA (qGOcc G),tA (qGOcc H),tA (qGOcc v),tA (qGOcc w),tA (qGOcc s),iA p]))]⟩,?_,?_⟩,trivial⟩
 ·refine bk [((0,0),(1000,0)),((7,50),(1007,50)),((14,0),(1014,0))] ?_
  cbv
  all_goals exact Zb
 cbv
 obtain⟨Kg,hh⟩:=ae hh
 refine⟨⟨Ob,Ab⟩,?_⟩
 refine⟨⟨Ob,Wb Kg⟩,?_⟩
 refine⟨[iA c,iA d,iA j,tA (qInt o),tA (qGOcc G),tA (qGOcc H),tA (qGOcc v),tA (qGOcc w),tA (qGOcc s),iA p],Gb2 b ((List.getElem?_eq_some_iff.1 b).1),?_⟩
 cbv
 refine⟨[iA c,iA d,iA j,tA (qInt o),tA (qGOcc G),tA (qGOcc H),tA (qGOcc v),tA (qGOcc w),tA (qGOcc s),iA p],Gb2 b ((List.getElem?_eq_some_iff.1 b).1),?_⟩
 cbv
 refine bcs (fun X=>?_) (fun X=>?_)
 replace hh:=ifT hh X
 try rw[X]
 cbv
 exact hN1 (_,_,_,_) _ hh fun⟨t0,t1,t2,t3⟩ e=>kA
 replace hh:=ifF hh X
 try rw[X]
 cbv
 refine⟨[iA c,iA d,iA j,tA (qInt o),tA (qGOcc G),tA (qGOcc H),tA (qGOcc v),tA (qGOcc w),tA (qGOcc s),iA (wrap .i64 (add p (cast (len (qGOcc IA)))))],Gb2 b ((List.getElem?_eq_some_iff.1 b).1),?_⟩
 cbv
 exact hN1 (_,_,_,_) _ hh fun⟨t0,t1,t2,t3⟩ e=>kA
 replace hh:=ifF hh W
 try rw[W]
 cbv
 refine bcs (fun Y=>?_) (fun Y=>?_)
 replace hh:=ifT hh Y
 try rw[Y]
 cbv
 refine⟨_,Gk (aM qInt qGOcc) b,?_⟩
 cbv
 obtain⟨Kh,hh⟩:=ae hh
 obtain⟨Ki,Kj,hh⟩:=ag hh
 obtain⟨Kk,hh⟩:=ae hh
 obtain⟨Kl,hh⟩:=ae hh
 obtain⟨Jk,Km,hh⟩:=ag hh
 refine⟨[(5,0),(9,0),(1007,50),(1014,0)],?_⟩
 cbv
 refine⟨tA (qGOcc Jk),?_,?_⟩
 ·refine eC hC (bH [] [185] [216]) mixed (ts:=[(4,none)]) Tryz.func216 (by kernel_rfl) (by kernel_rfl) ?_
  intro S N
  cbv
  refine⟨_,Gk (aM qInt qGOcc) b,?_⟩
  cbv
  refine⟨[iA Ki],Nb Kh,Gb Kj,?_⟩
  cbv
  refine⟨Nb Kk,Mb Kl,?_⟩
  refine⟨[tA (qGOcc Jk)],Gb Km,?_⟩
  cbv
  exact Rb
 cbv
 obtain⟨Ko,hh⟩:=ae hh
 obtain⟨Kp,Kq,hh⟩:=ag hh
 obtain⟨Kr,hh⟩:=ae hh
 obtain⟨Ks,hh⟩:=ae hh
 obtain⟨Jl,Kt,hh⟩:=ag hh
 refine⟨[(5,0),(9,0),(1007,50),(1014,0)],?_⟩
 cbv
 refine⟨tA (qGOcc Jl),?_,?_⟩
 ·refine eC hC (bH [] [185] [216]) mixed (ts:=[(4,none)]) Tryz.func216 (by kernel_rfl) (by kernel_rfl) ?_
  intro S N
  cbv
  refine⟨_,Gk (aM qInt qGOcc) b,?_⟩
  cbv
  refine⟨[iA Kp],Nb Ko,Gb Kq,?_⟩
  cbv
  refine⟨Nb Kr,Mb Ks,?_⟩
  refine⟨[tA (qGOcc Jl)],Gb Kt,?_⟩
  cbv
  exact Rb
 cbv
 obtain⟨Ku,hh⟩:=ae hh
 obtain⟨Kv,Kw,hh⟩:=ag hh
 obtain⟨Kx,hh⟩:=ae hh
 obtain⟨Ky,hh⟩:=ae hh
 obtain⟨Jn,Kz,hh⟩:=ag hh
 refine⟨[(5,0),(9,0),(1007,50),(1014,0)],?_⟩
 cbv
 refine⟨tA (qGOcc Jn),?_,?_⟩
 ·refine eC hC (bH [] [185] [216]) mixed (ts:=[(4,none)]) Tryz.func216 (by kernel_rfl) (by kernel_rfl) ?_
  intro S N
  cbv
  refine⟨_,Gk (aM qInt qGOcc) b,?_⟩
  cbv
  refine⟨[iA Kv],Nb Ku,Gb Kw,?_⟩
  cbv
  refine⟨Nb Kx,Mb Ky,?_⟩
  refine⟨[tA (qGOcc Jn)],Gb Kz,?_⟩
  cbv
  exact Rb
 cbv
 obtain⟨⟨⟨I,J⟩,IB⟩,KA,hh⟩:=ag hh
 try dsimp only at hh
 have fc:=pv hQ KA
 try dsimp only at fc
 refine ak hF fc ?_
 cbv
 refine⟨[iA c,iA d,iA j,tA (qInt o),tA (qGOcc t),tA (qGOcc u),tA (qGOcc v),tA (qGOcc w),tA (qGOcc s),iA p],Gb b,?_⟩
 cbv
 refine⟨⟨⟨[(0,mA (0,0)),(1,iA p1),(2,.lit (.pointer none)),(7,rA (7,50) (len (qLGOcc z))),(9,.mptr (14,0) 1 (nadd 0 (toNat y)) 0),(15,iA (cast (len (qGNode p0b)))),(16,iA y),(30,tA (qGOcc IB)),(1000000,mA (0,0))],[((0,0),.box 1 [iA p0a,rA (14,0) (len (qGNode A)),iA p0c,iA p0d,bA B]),((7,50),.arr 1 1 (qLGOcc z)),((14,0),.arr 1 10 (set (qGNode A) (nadd 0 (toNat y)) [iA c,iA d,iA j,tA (qInt o),tA (qGOcc t),tA (qGOcc u),tA (qGOcc I),tA (qGOcc J),tA (qGOcc s),iA p]))]⟩,?_,?_⟩,trivial⟩
 ·refine bk [((0,0),(1000,0)),((7,50),(1007,50)),((14,0),(1014,0))] ?_
  cbv
  all_goals exact Zb
 cbv
 obtain⟨KC,hh⟩:=ae hh
 refine⟨⟨Ob,Ab⟩,?_⟩
 refine⟨⟨Ob,Wb KC⟩,?_⟩
 refine⟨[iA c,iA d,iA j,tA (qInt o),tA (qGOcc t),tA (qGOcc u),tA (qGOcc I),tA (qGOcc J),tA (qGOcc s),iA p],Gb2 b ((List.getElem?_eq_some_iff.1 b).1),?_⟩
 cbv
 refine⟨[iA c,iA d,iA j,tA (qInt o),tA (qGOcc t),tA (qGOcc u),tA (qGOcc I),tA (qGOcc J),tA (qGOcc s),iA p],Gb2 b ((List.getElem?_eq_some_iff.1 b).1),?_⟩
 cbv
 refine bcs (fun Z=>?_) (fun Z=>?_)
 replace hh:=ifT hh Z
 try rw[Z]
 cbv
 exact hN1 (_,_,_,_) _ hh fun⟨t0,t1,t2,t3⟩ e=>kA
 replace hh:=ifF hh Z
 try rw[Z]
 cbv
 refine⟨[iA c,iA d,iA j,tA (qInt o),tA (qGOcc t),tA (qGOcc u),tA (qGOcc I),tA (qGOcc J),tA (qGOcc s),iA (wrap .i64 (add p (cast (len (qGOcc IB)))))],Gb2 b ((List.getElem?_eq_some_iff.1 b).1),?_⟩
 cbv
 exact hN1 (_,_,_,_) _ hh fun⟨t0,t1,t2,t3⟩ e=>kA
 replace hh:=ifF hh Y
 try rw[Y]
 cbv
 refine bcs (fun eR=>?_) (fun eR=>?_)
 replace hh:=ifT hh eR
 try rw[eR]
 cbv
 refine⟨_,Gk (aM qInt qGOcc) b,?_⟩
 cbv
 obtain⟨KD,hh⟩:=ae hh
 obtain⟨KE,KG,hh⟩:=ag hh
 obtain⟨KH,hh⟩:=ae hh
 obtain⟨KJ,hh⟩:=ae hh
 obtain⟨Jo,KK,hh⟩:=ag hh
 refine⟨[(5,0),(9,0),(1007,50),(1014,0)],?_⟩
 cbv
 refine⟨tA (qGOcc Jo),?_,?_⟩
 ·refine eC hC (bH [] [185] [216]) mixed (ts:=[(4,none)]) Tryz.func216 (by kernel_rfl) (by kernel_rfl) ?_
  intro S N
  cbv
  refine⟨_,Gk (aM qInt qGOcc) b,?_⟩
  cbv
  refine⟨[iA KE],Nb KD,Gb KG,?_⟩
  cbv
  refine⟨Nb KH,Mb KJ,?_⟩
  refine⟨[tA (qGOcc Jo)],Gb KK,?_⟩
  cbv
  exact Rb
 cbv
 obtain⟨KL,hh⟩:=ae hh
 obtain⟨KM,KN,hh⟩:=ag hh
 obtain⟨KO,hh⟩:=ae hh
 obtain⟨KP,hh⟩:=ae hh
 obtain⟨Jp,KQ,hh⟩:=ag hh
 refine⟨[(5,0),(9,0),(1007,50),(1014,0)],?_⟩
 cbv
 refine⟨tA (qGOcc Jp),?_,?_⟩
 ·refine eC hC (bH [] [185] [216]) mixed (ts:=[(4,none)]) Tryz.func216 (by kernel_rfl) (by kernel_rfl) ?_
  intro S N
  cbv
  refine⟨_,Gk (aM qInt qGOcc) b,?_⟩
  cbv
  refine⟨[iA KM],Nb KL,Gb KN,?_⟩
  cbv
  refine⟨Nb KO,Mb KP,?_⟩
  refine⟨[tA (qGOcc Jp)],Gb KQ,?_⟩
  cbv
  exact Rb
 cbv
 obtain⟨KR,hh⟩:=ae hh
 obtain⟨KS,KT,hh⟩:=ag hh
 obtain⟨KU,hh⟩:=ae hh
 obtain⟨KV,hh⟩:=ae hh
 obtain⟨Jq,KW,hh⟩:=ag hh
 refine⟨[(5,0),(9,0),(1007,50),(1014,0)],?_⟩
 cbv
 refine⟨tA (qGOcc Jq),?_,?_⟩
 ·refine eC hC (bH [] [185] [216]) mixed (ts:=[(4,none)]) Tryz.func216 (by kernel_rfl) (by kernel_rfl) ?_
  intro S N
  cbv
  refine⟨_,Gk (aM qInt qGOcc) b,?_⟩
  cbv
  refine⟨[iA KS],Nb KR,Gb KT,?_⟩
  cbv
  refine⟨Nb KU,Mb KV,?_⟩
  refine⟨[tA (qGOcc Jq)],Gb KW,?_⟩
  cbv
  exact Rb
 cbv
 obtain⟨⟨⟨K,L⟩,IC⟩,KX,hh⟩:=ag hh
 try dsimp only at hh
 have fc:=oh hQ KX
 try dsimp only at fc
 refine ak hF fc ?_
 cbv
 refine⟨[iA c,iA d,iA j,tA (qInt o),tA (qGOcc t),tA (qGOcc u),tA (qGOcc v),tA (qGOcc w),tA (qGOcc s),iA p],Gb b,?_⟩
 cbv
 refine⟨⟨⟨[(0,mA (0,0)),(1,iA p1),(2,.lit (.pointer none)),(7,rA (7,50) (len (qLGOcc z))),(9,.mptr (14,0) 1 (nadd 0 (toNat y)) 0),(15,iA (cast (len (qGNode p0b)))),(16,iA y),(30,tA (qGOcc IC)),(1000000,mA (0,0))],[((0,0),.box 1 [iA p0a,rA (14,0) (len (qGNode A)),iA p0c,iA p0d,bA B]),((7,50),.arr 1 1 (qLGOcc z)),((14,0),.arr 1 10 (set (qGNode A) (nadd 0 (toNat y)) [iA c,iA d,iA j,tA (qInt o),tA (qGOcc t),tA (qGOcc u),tA (qGOcc K),tA (qGOcc L),tA (qGOcc s),iA p]))]⟩,?_,?_⟩,trivial⟩
 ·refine bk [((0,0),(1000,0)),((7,50),(1007,50)),((14,0),(1014,0))] ?_
  cbv
  all_goals exact Zb
 cbv
 obtain⟨KY,hh⟩:=ae hh
 refine⟨⟨Ob,Ab⟩,?_⟩
 refine⟨⟨Ob,Wb KY⟩,?_⟩
 refine⟨[iA c,iA d,iA j,tA (qInt o),tA (qGOcc t),tA (qGOcc u),tA (qGOcc K),tA (qGOcc L),tA (qGOcc s),iA p],Gb2 b ((List.getElem?_eq_some_iff.1 b).1),?_⟩
 cbv
 refine⟨[iA c,iA d,iA j,tA (qInt o),tA (qGOcc t),tA (qGOcc u),tA (qGOcc K),tA (qGOcc L),tA (qGOcc s),iA p],Gb2 b ((List.getElem?_eq_some_iff.1 b).1),?_⟩
 cbv
 refine bcs (fun HS=>?_) (fun HS=>?_)
 replace hh:=ifT hh HS
 try rw[HS]
 cbv
 exact hN1 (_,_,_,_) _ hh fun⟨t0,t1,t2,t3⟩ e=>kA
 replace hh:=ifF hh HS
 try rw[HS]
 cbv
 refine⟨[iA c,iA d,iA j,tA (qInt o),tA (qGOcc t),tA (qGOcc u),tA (qGOcc K),tA (qGOcc L),tA (qGOcc s),iA (wrap .i64 (add p (cast (len (qGOcc IC)))))],Gb2 b ((List.getElem?_eq_some_iff.1 b).1),?_⟩
 cbv
 exact hN1 (_,_,_,_) _ hh fun⟨t0,t1,t2,t3⟩ e=>kA
 replace hh:=ifF hh eR
 try rw[eR]
 cbv
 refine⟨_,Gk (aM qInt qGOcc) b,?_⟩
 cbv
 obtain⟨Id,KZ,hh⟩:=ag hh
 refine ak hF (ah.frz (r':=tA (qGOcc Id)) (za hQ KZ) (by cases hQ;simp)) ?_
 cbv
 refine⟨_,Gk (aM qInt qGOcc) b,?_⟩
 cbv
 obtain⟨Jr,K3,hh⟩:=ag hh
 refine ak hF (ah.frz (r':=tA (qGOcc Jr)) (im hQ (g1:=fun y0=>eg.f y0 p1) (fun h=>ne hQ h) K3) (by cases hQ;simp)) ?_
 cbv
 refine⟨[iA c,iA d,iA j,tA (qInt o),tA (qGOcc t),tA (qGOcc u),tA (qGOcc v),tA (qGOcc w),tA (qGOcc s),iA p],Gb b,?_⟩
 cbv
 obtain⟨K4,hh⟩:=ae hh
 obtain⟨K5,K6,hh⟩:=ag hh
 obtain⟨K7,hh⟩:=ae hh
 obtain⟨K8,hh⟩:=ae hh
 obtain⟨If,K9,hh⟩:=ag hh
 refine⟨[(5,0),(9,0),(1007,50),(1014,0)],?_⟩
 cbv
 refine⟨tA (qGOcc If),?_,?_⟩
 ·refine eC hC (bH [] [185] [216]) mixed (ts:=[(4,none)]) Tryz.func216 (by kernel_rfl) (by kernel_rfl) ?_
  intro S N
  cbv
  refine⟨[iA c,iA d,iA j,tA (qInt o),tA (qGOcc t),tA (qGOcc u),tA (qGOcc v),tA (qGOcc w),tA (qGOcc Jr),iA p],Gb2 b ((List.getElem?_eq_some_iff.1 b).1),?_⟩
  cbv
  refine⟨[iA K5],Nb K4,Gb K6,?_⟩
  cbv
  refine⟨Nb K7,Mb K8,?_⟩
  refine⟨[tA (qGOcc If)],Gb K9,?_⟩
  cbv
  exact Rb
 cbv
 obtain⟨o2,Le,hq2⟩:=ag hh
 refine lgq [] [185] [216] hC (U2 (aj.l2 k If y))
  (fun⟨IL,Js⟩=>⟨[(5,mA (5,0)),(12,tA (qGOcc Id)),(36,tA (qGOcc If)),(37,iA (cast (len (qGOcc If)))),(38,iA Js),(2000000,mA (1000,0)),(2000001,iA p1),(2000002,.lit (.pointer none)),(2000007,rA (1007,50) (len (qLGOcc z))),(2000009,.mptr (1014,0) 1 (nadd 0 (toNat y)) 0),(2000015,iA (cast (len (qGNode p0b)))),(2000016,iA y),(3000000,mA (1000,0))],[((5,0),.box 1 [.mptr (1014,0) 1 (nadd 0 (toNat y)) 0]),((1000,0),.box 1 [iA p0a,rA (1014,0) (len (qGNode IL)),iA p0c,iA p0d,bA B]),((1007,50),.arr 1 1 (qLGOcc z)),((1014,0),.arr 1 10 (qGNode IL))]⟩)
  (fun(Ir:List GNode)=>⟨[(12,tA (qGOcc Id)),(2000000,mA (1000,0)),(2000001,iA p1),(2000002,.lit (.pointer none)),(2000007,rA (1007,50) (len (qLGOcc z))),(2000009,.mptr (1014,0) 1 (nadd 0 (toNat y)) 0),(2000015,iA (cast (len (qGNode p0b)))),(2000016,iA y),(3000000,mA (1000,0))],[((1000,0),.box 1 [iA p0a,rA (1014,0) (len (qGNode Ir)),iA p0c,iA p0d,bA B]),((1007,50),.arr 1 1 (qLGOcc z)),((1014,0),.arr 1 10 (qGNode Ir))]⟩) (fun x=>x) (.exit 1)
  (i0:=(_,_)) Le (fun⟨t0,t1⟩ e=>kA) ?_ ?_
 rintro Ir hx
 subst o2
 have hh:=hq2
 cbv
 refine⟨⟨⟨[(0,mA (0,0)),(1,iA p1),(2,.lit (.pointer none)),(7,rA (7,50) (len (qLGOcc z))),(9,.mptr (14,0) 1 (nadd 0 (toNat y)) 0),(15,iA (cast (len (qGNode p0b)))),(16,iA y),(30,tA (qGOcc Id)),(1000000,mA (0,0))],[((0,0),.box 1 [iA p0a,rA (14,0) (len (qGNode Ir)),iA p0c,iA p0d,bA B]),((7,50),.arr 1 1 (qLGOcc z)),((14,0),.arr 1 10 (qGNode Ir))]⟩,?_,?_⟩,trivial⟩
 ·refine bk [((0,0),(1000,0)),((7,50),(1007,50)),((14,0),(1014,0))] ?_
  cbv
  all_goals exact Zb
 cbv
 obtain⟨La,hh⟩:=ae hh
 refine⟨⟨Ob,Ab⟩,?_⟩
 refine⟨⟨Ob,Wb La⟩,?_⟩
 obtain⟨⟨IM,IP,IS,IU,⟨IV,IW⟩,⟨IY,IZ⟩,I3,I5⟩,Iy,hh⟩:=ag hh
 try dsimp only at hh
 refine⟨_,Gk (aM qInt qGOcc) Iy,?_⟩
 cbv
 refine⟨[iA IM,iA IP,iA IS,tA (qInt IU),tA (qGOcc IV),tA (qGOcc IW),tA (qGOcc IY),tA (qGOcc IZ),tA (qGOcc I3),iA I5],Gb Iy,?_⟩
 cbv
 refine bcs (fun Iv=>?_) (fun Iv=>?_)
 replace hh:=ifT hh Iv
 try rw[Iv]
 cbv
 exact hN1 (_,_,_,_) _ hh fun⟨t0,t1,t2,t3⟩ e=>kA
 replace hh:=ifF hh Iv
 try rw[Iv]
 cbv
 refine⟨[iA IM,iA IP,iA IS,tA (qInt IU),tA (qGOcc IV),tA (qGOcc IW),tA (qGOcc IY),tA (qGOcc IZ),tA (qGOcc I3),iA (wrap .i64 (add I5 (cast (len (qGOcc Id)))))],Gb2 Iy ((List.getElem?_eq_some_iff.1 Iy).1),?_⟩
 cbv
 exact hN1 (_,_,_,_) _ hh fun⟨t0,t1,t2,t3⟩ e=>kA
 rintro n ⟨IL,Js⟩ N2 D2 hh hN2 hD2 hQ2
 dsimp only[U2] at hh
 unfold aj.l2 at hh
 cbv
 refine bcs (fun Iw=>?_) (fun Iw=>?_)
 replace hh:=ifT hh Iw
 try rw[Iw]
 cbv
 obtain⟨Lb,hh⟩:=ae hh
 obtain⟨⟨Ju,Jv,Jw⟩,Lc,hh⟩:=ag hh
 try dsimp only at hh
 refine⟨[iA Ju,iA Jv,tA (qInt Jw)],Nb Lb,Gb Lc,?_⟩
 cbv
 obtain⟨⟨Lf,Lg,Lh,Li,⟨Lj,Lk⟩,⟨Ll,Lm⟩,Ln,Lo⟩,Jt,hh⟩:=ag hh
 try dsimp only at hh
 refine⟨_,Gk (aM qInt qGOcc) Jt,?_⟩
 cbv
 refine⟨_,Gk (aM qInt qGOcc) Jt,?_⟩
 cbv
 have c1:=@sK
 have c2:=@lS
 exact D
 replace hh:=ifF hh Iw
 try rw[Iw]
 cbv
 exact hD2 _ _ hh fun t0 e=>kA
 replace hh:=ifF hh M
 try rw[M]
 cbv
 exact hD1 (_,_,_) _ hh fun⟨t0,t1,t2⟩ e=>kA

end Go.Proofs.YtlbnmldopjadoaaGreat
