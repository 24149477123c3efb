/- The functions of this program do what the plain ones do. -/
import Derived.Test.YtlbnmldopjadoaaGreatC2
namespace Go.Proofs.YtlbnmldopjadoaaGreat
open Go Go.Vm
set_option linter.unusedVariables false
set_option maxHeartbeats 4000000
set_option maxRecDepth 4000
variable {qIu8:List Int→Vm.Rows} {qInt:List Int→Vm.Rows} {qGExO:List GEx→Vm.Rows} {qGEx:List GEx→Vm.Rows} {qGEv:List GEv→Vm.Rows} {qGOcc:List GOcc→Vm.Rows} {qGNode:List GNode→Vm.Rows} {qLGOcc:List (List GOcc)→Vm.Rows} {qLInt:List (List Int)→Vm.Rows} {qGOccO:List GOcc→Vm.Rows} {qStr:List ByteArray→Vm.Rows} {qGNodeS:List GNode→Vm.Rows} {qBool:List Bool→Vm.Rows} (hQ:EQ qIu8 qInt qGExO qGEx qGEv qGOcc qGNode qLGOcc qLInt qGOccO qStr qGNodeS qBool)
include hQ
theorem nO {k:Nat} {p0:GGraph} {p1:Int} {r:(List GOcc)×GGraph} (hh:am.f k p0 p1=some r):ak P 130 [.obox [iA p0.Mode,oA 10 (qGNode p0.Nodes),iA p0.Seen,iA p0.Now,bA p0.Full],iA p1,.lit (.pointer none)] [.obox [iA r.2.Mode,oA 10 (qGNode r.2.Nodes),iA r.2.Seen,iA r.2.Now,bA r.2.Full],hA,hA] (tA (qGOcc r.1)):=by
 obtain⟨p0a,p0b,p0c,p0d,p0e⟩:=p0
 unfold am.f at hh
 refine goG (g:=[]) (i:=[185]) (o:=[216]) (sh:=[]) (ts:=[(6,none)]) (rm:=[.val]) (pm:=[.own,.skip,.skip]) Tryz.func130 ?_
 unhygienic intros
 cbv
 obtain⟨o1,Ij,Ik⟩:=af hh
 refine ay hC (bU [] [185] [216]) mixed (fun n (i:(List GNode)×Bool×(List (List GOcc))×Int)=>am.l1 k (⟨p0a,p0b,p0c,p0d,p0e⟩:GGraph) p1 n i.1 i.2.1 i.2.2.1 i.2.2.2)
  (fun⟨B,D,A,z⟩=>(⟨[(0,.mptr (0,0) 1 0 0),(1,iA p1),(2,.lit (.pointer none)),(7,.ref (7,50) 1 0 (len (qLGOcc A))),(15,iA (cast (len (qGNode p0b)))),(16,iA z),(1000000,.mptr (0,0) 1 0 0)],[((0,0),.box 1 [iA p0a,.ref (14,0) 1 0 (len (qGNode B)),iA p0c,iA p0d,bA D]),((7,50),.arr 1 1 (qLGOcc A)),((14,0),.arr 1 10 (qGNode B))]⟩:St))
  (fun(⟨Gg,Gh,Gk⟩:(List (List GOcc))×(List GNode)×Bool)=>(⟨[(7,.ref (7,50) 1 0 (len (qLGOcc Gg))),(1000000,.mptr (0,0) 1 0 0)],[((0,0),.box 1 [iA p0a,.ref (14,0) 1 0 (len (qGNode Gh)),iA p0c,iA p0d,bA Gk]),((7,50),.arr 1 1 (qLGOcc Gg)),((14,0),.arr 1 10 (qGNode Gh))]⟩:St)) (fun x=>x) (.exit 0)
  (i0:=(_,_,_,_)) Ij (fun _=>rfl) ?_ ?_ ?_
 ·rintro⟨F,G,R,T⟩ e
  refine aq [((0,0),(0,0)),((14,0),(14,0))] ?_
  cbv
  all_goals exact J4
 rintro⟨Gg,Gh,Gk⟩ hx
 subst o1
 have hh:=Ik
 cbv
 obtain⟨GE,hh⟩:=ac hh
 obtain⟨GF,hh⟩:=ac hh
 refine⟨Nb GE,Mb GF,?_⟩
 obtain⟨GG,GH,hh⟩:=af hh
 refine⟨[tA (qGOcc GG)],Gb GH,?_⟩
 cbv
 exact Eb
 rintro n ⟨B,D,A,z⟩ N1 D1 hh C Il Ix
 try dsimp only at hh
 unfold am.l1 at hh
 cbv
 refine bcs (fun U=>?_) (fun U=>?_)
 replace hh:=ifT hh U
 try rw[U]
 cbv
 obtain⟨GI,hh⟩:=ac hh
 obtain⟨GJ,hh⟩:=ac hh
 refine⟨Nb GI,Mb GJ,?_⟩
 refine yb hC (bU [] [185] [216]) mixed (ts:=[(10,none)]) (⟨[(0,.mptr (1014,0) 1 (nadd 0 (toNat z)) 0),(1,.mptr (1000,0) 1 0 0),(2,iA p1),(3,.lit (.pointer none)),(4,.ref (1007,50) 1 0 (len (qLGOcc A))),(2000000,.mptr (1000,0) 1 0 0),(2000001,iA p1),(2000002,.lit (.pointer none)),(2000007,.ref (1007,50) 1 0 (len (qLGOcc A))),(2000009,.mptr (1014,0) 1 (nadd 0 (toNat z)) 0),(2000015,iA (cast (len (qGNode p0b)))),(2000016,iA z),(3000000,.mptr (1000,0) 1 0 0)],[((1000,0),.box 1 [iA p0a,.ref (1014,0) 1 0 (len (qGNode B)),iA p0c,iA p0d,bA D]),((1007,50),.arr 1 1 (qLGOcc A)),((1014,0),.arr 1 10 (qGNode B))]⟩:St) Tryz.func185 (by kernel_rfl) (by kernel_rfl) ?_ ?_
 ·refine aq [((1000,0),(0,0)),((1007,50),(7,50)),((1014,0),(14,0))] ?_
  cbv
  all_goals exact Zb
 cbv
 obtain⟨⟨b,c,d,j,⟨u,v⟩,⟨w,y⟩,t,p⟩,s,hh⟩:=af hh
 try dsimp only at hh
 refine⟨[iA b,iA c,iA d,tA (qInt j),tA (qGOcc u),tA (qGOcc v),tA (qGOcc w),tA (qGOcc y),tA (qGOcc t),iA p],Gb s,?_⟩
 cbv
 refine bcs (fun V=>?_) (fun V=>?_)
 replace hh:=ifT hh V
 try rw[V]
 cbv
 refine⟨⟨(⟨[(0,.mptr (0,0) 1 0 0),(1,iA p1),(2,.lit (.pointer none)),(7,.ref (7,50) 1 0 (len (qLGOcc A))),(9,.mptr (14,0) 1 (nadd 0 (toNat z)) 0),(15,iA (cast (len (qGNode p0b)))),(16,iA z),(30,.lit (.slice none 0 0)),(1000000,.mptr (0,0) 1 0 0)],[((0,0),.box 1 [iA p0a,.ref (14,0) 1 0 (len (qGNode B)),iA p0c,iA p0d,bA D]),((7,50),.arr 1 1 (qLGOcc A)),((14,0),.arr 1 10 (qGNode B))]⟩:St),?_,?_⟩,trivial⟩
 ·refine aq [((0,0),(1000,0)),((7,50),(1007,50)),((14,0),(1014,0))] ?_
  cbv
  all_goals exact Zb
 cbv
 refine⟨none,?_⟩;try cbv
 obtain⟨GK,hh⟩:=ac hh
 refine⟨⟨Ob,Ab⟩,?_⟩
 refine⟨⟨Ob,Wb GK⟩,?_⟩
 refine⟨[iA b,iA c,iA d,tA (qInt j),tA (qGOcc u),tA (qGOcc v),tA (qGOcc w),tA (qGOcc y),tA (qGOcc t),iA p],Gb s,?_⟩
 cbv
 refine⟨[iA b,iA c,iA d,tA (qInt j),tA (qGOcc u),tA (qGOcc v),tA (qGOcc w),tA (qGOcc y),tA (qGOcc t),iA p],Gb s,?_⟩
 cbv
 refine bcs (fun W=>?_) (fun W=>?_)
 replace hh:=ifT hh W
 try rw[W]
 cbv
 ·refine C (_,_,_,_) _ hh fun⟨F,G,R,T⟩ e=>?_
  refine aq [((0,0),(0,0)),((7,50),(34,0)),((14,0),(14,0))] ?_
  cbv
  all_goals exact J4
 replace hh:=ifF hh W
 try rw[W]
 cbv
 refine⟨[iA b,iA c,iA d,tA (qInt j),tA (qGOcc u),tA (qGOcc v),tA (qGOcc w),tA (qGOcc y),tA (qGOcc t),iA (wrap .i64 (add p 0))],Gb2 s ((List.getElem?_eq_some_iff.1 s).1),?_⟩
 cbv
 ·refine C (_,_,_,_) _ hh fun⟨F,G,R,T⟩ e=>?_
  refine aq [((0,0),(0,0)),((7,50),(34,0)),((14,0),(14,0))] ?_
  cbv
  all_goals exact J4
 replace hh:=ifF hh V
 try rw[V]
 cbv
 refine bcs (fun X=>?_) (fun X=>?_)
 replace hh:=ifT hh X
 try rw[X]
 cbv
 obtain⟨GL,hh⟩:=ac hh
 obtain⟨GM,GN,hh⟩:=af hh
 obtain⟨GO,hh⟩:=ac hh
 obtain⟨GP,hh⟩:=ac hh
 obtain⟨Gl,GQ,hh⟩:=af hh
 refine⟨[(5,0),(9,0),(1007,50),(1014,0)],?_⟩
 cbv
 refine⟨tA (qGOcc Gl),?_,?_⟩
 ·refine ec hC (bU [] [185] [216]) mixed (ts:=[(4,none)]) Tryz.func216 (by kernel_rfl) (by kernel_rfl) ?_
  intro S N
  cbv
  refine⟨[iA b,iA c,iA d,tA (qInt j),tA (qGOcc u),tA (qGOcc v),tA (qGOcc w),tA (qGOcc y),tA (qGOcc t),iA p],Gb s,?_⟩
  cbv
  refine⟨[iA GM],Nb GL,Gb GN,?_⟩
  cbv
  refine⟨Nb GO,Mb GP,?_⟩
  refine⟨[tA (qGOcc Gl)],Gb GQ,?_⟩
  cbv
  exact Rb
 cbv
 obtain⟨GR,hh⟩:=ac hh
 obtain⟨GS,GT,hh⟩:=af hh
 obtain⟨GU,hh⟩:=ac hh
 obtain⟨GV,hh⟩:=ac hh
 obtain⟨Gm,GW,hh⟩:=af hh
 refine⟨[(5,0),(9,0),(1007,50),(1014,0)],?_⟩
 cbv
 refine⟨tA (qGOcc Gm),?_,?_⟩
 ·refine ec hC (bU [] [185] [216]) mixed (ts:=[(4,none)]) Tryz.func216 (by kernel_rfl) (by kernel_rfl) ?_
  intro S N
  cbv
  refine⟨[iA b,iA c,iA d,tA (qInt j),tA (qGOcc u),tA (qGOcc v),tA (qGOcc w),tA (qGOcc y),tA (qGOcc t),iA p],Gb s,?_⟩
  cbv
  refine⟨[iA GS],Nb GR,Gb GT,?_⟩
  cbv
  refine⟨Nb GU,Mb GV,?_⟩
  refine⟨[tA (qGOcc Gm)],Gb GW,?_⟩
  cbv
  exact Rb
 cbv
 obtain⟨Gn,GX,hh⟩:=af hh
 refine ag hF (bL hQ GX) ?_
 cbv
 refine⟨⟨(⟨[(0,.mptr (0,0) 1 0 0),(1,iA p1),(2,.lit (.pointer none)),(7,.ref (7,50) 1 0 (len (qLGOcc A))),(9,.mptr (14,0) 1 (nadd 0 (toNat z)) 0),(15,iA (cast (len (qGNode p0b)))),(16,iA z),(30,tA (qGOcc Gn)),(1000000,.mptr (0,0) 1 0 0)],[((0,0),.box 1 [iA p0a,.ref (14,0) 1 0 (len (qGNode B)),iA p0c,iA p0d,bA D]),((7,50),.arr 1 1 (qLGOcc A)),((14,0),.arr 1 10 (qGNode B))]⟩:St),?_,?_⟩,trivial⟩
 ·refine aq [((0,0),(1000,0)),((7,50),(1007,50)),((14,0),(1014,0))] ?_
  cbv
  all_goals exact Zb
 cbv
 obtain⟨GY,hh⟩:=ac hh
 refine⟨⟨Ob,Ab⟩,?_⟩
 refine⟨⟨Ob,Wb GY⟩,?_⟩
 refine⟨[iA b,iA c,iA d,tA (qInt j),tA (qGOcc u),tA (qGOcc v),tA (qGOcc w),tA (qGOcc y),tA (qGOcc t),iA p],Gb s,?_⟩
 cbv
 refine⟨[iA b,iA c,iA d,tA (qInt j),tA (qGOcc u),tA (qGOcc v),tA (qGOcc w),tA (qGOcc y),tA (qGOcc t),iA p],Gb s,?_⟩
 cbv
 refine bcs (fun Y=>?_) (fun Y=>?_)
 replace hh:=ifT hh Y
 try rw[Y]
 cbv
 ·refine C (_,_,_,_) _ hh fun⟨F,G,R,T⟩ e=>?_
  refine aq [((0,0),(0,0)),((7,50),(34,0)),((14,0),(14,0))] ?_
  cbv
  all_goals exact J4
 replace hh:=ifF hh Y
 try rw[Y]
 cbv
 refine⟨[iA b,iA c,iA d,tA (qInt j),tA (qGOcc u),tA (qGOcc v),tA (qGOcc w),tA (qGOcc y),tA (qGOcc t),iA (wrap .i64 (add p (cast (len (qGOcc Gn)))))],Gb2 s ((List.getElem?_eq_some_iff.1 s).1),?_⟩
 cbv
 ·refine C (_,_,_,_) _ hh fun⟨F,G,R,T⟩ e=>?_
  refine aq [((0,0),(0,0)),((7,50),(34,0)),((14,0),(14,0))] ?_
  cbv
  all_goals exact J4
 replace hh:=ifF hh X
 try rw[X]
 cbv
 refine bcs (fun Z=>?_) (fun Z=>?_)
 replace hh:=ifT hh Z
 try rw[Z]
 cbv
 refine⟨[iA b,iA c,iA d,tA (qInt j),tA (qGOcc u),tA (qGOcc v),tA (qGOcc w),tA (qGOcc y),tA (qGOcc t),iA p],Gb s,?_⟩
 cbv
 obtain⟨GZ,hh⟩:=ac hh
 obtain⟨G0,G1,hh⟩:=af hh
 obtain⟨G2,hh⟩:=ac hh
 obtain⟨G3,hh⟩:=ac hh
 obtain⟨Gp,G4,hh⟩:=af hh
 refine⟨[(5,0),(9,0),(1007,50),(1014,0)],?_⟩
 cbv
 refine⟨tA (qGOcc Gp),?_,?_⟩
 ·refine ec hC (bU [] [185] [216]) mixed (ts:=[(4,none)]) Tryz.func216 (by kernel_rfl) (by kernel_rfl) ?_
  intro S N
  cbv
  refine⟨[iA b,iA c,iA d,tA (qInt j),tA (qGOcc u),tA (qGOcc v),tA (qGOcc w),tA (qGOcc y),tA (qGOcc t),iA p],Gb s,?_⟩
  cbv
  refine⟨[iA G0],Nb GZ,Gb G1,?_⟩
  cbv
  refine⟨Nb G2,Mb G3,?_⟩
  refine⟨[tA (qGOcc Gp)],Gb G4,?_⟩
  cbv
  exact Rb
 cbv
 obtain⟨G5,hh⟩:=ac hh
 obtain⟨G6,G7,hh⟩:=af hh
 obtain⟨G8,hh⟩:=ac hh
 obtain⟨G9,hh⟩:=ac hh
 obtain⟨Gq,Ha,hh⟩:=af hh
 refine⟨[(5,0),(9,0),(1007,50),(1014,0)],?_⟩
 cbv
 refine⟨tA (qGOcc Gq),?_,?_⟩
 ·refine ec hC (bU [] [185] [216]) mixed (ts:=[(4,none)]) Tryz.func216 (by kernel_rfl) (by kernel_rfl) ?_
  intro S N
  cbv
  refine⟨[iA b,iA c,iA d,tA (qInt j),tA (qGOcc u),tA (qGOcc v),tA (qGOcc w),tA (qGOcc y),tA (qGOcc t),iA p],Gb s,?_⟩
  cbv
  refine⟨[iA G6],Nb G5,Gb G7,?_⟩
  cbv
  refine⟨Nb G8,Mb G9,?_⟩
  refine⟨[tA (qGOcc Gq)],Gb Ha,?_⟩
  cbv
  exact Rb
 cbv
 obtain⟨⟨⟨H,I⟩,Gc⟩,Hb,hh⟩:=af hh
 try dsimp only at hh
 have fc:=kF hQ Hb
 try dsimp only at fc
 refine ag hF fc ?_
 cbv
 refine⟨[iA b,iA c,iA d,tA (qInt j),tA (qGOcc u),tA (qGOcc v),tA (qGOcc w),tA (qGOcc y),tA (qGOcc t),iA p],Gb s,?_⟩
 cbv
 refine⟨⟨(⟨[(0,.mptr (0,0) 1 0 0),(1,iA p1),(2,.lit (.pointer none)),(7,.ref (7,50) 1 0 (len (qLGOcc A))),(9,.mptr (14,0) 1 (nadd 0 (toNat z)) 0),(15,iA (cast (len (qGNode p0b)))),(16,iA z),(30,tA (qGOcc Gc)),(1000000,.mptr (0,0) 1 0 0)],[((0,0),.box 1 [iA p0a,.ref (14,0) 1 0 (len (qGNode B)),iA p0c,iA p0d,bA D]),((7,50),.arr 1 1 (qLGOcc A)),((14,0),.arr 1 10 (set (qGNode B) (nadd 0 (toNat z)) [iA b,iA c,iA d,tA (qInt j),tA (qGOcc H),tA (qGOcc I),tA (qGOcc w),tA (qGOcc y),tA (qGOcc t),iA p]))]⟩:St),?_,?_⟩,trivial⟩
 ·refine aq [((0,0),(1000,0)),((7,50),(1007,50)),((14,0),(1014,0))] ?_
  cbv
  all_goals exact Zb
 cbv
 obtain⟨Hc,hh⟩:=ac hh
 refine⟨⟨Ob,Ab⟩,?_⟩
 refine⟨⟨Ob,Wb Hc⟩,?_⟩
 refine⟨[iA b,iA c,iA d,tA (qInt j),tA (qGOcc H),tA (qGOcc I),tA (qGOcc w),tA (qGOcc y),tA (qGOcc t),iA p],Gb2 s ((List.getElem?_eq_some_iff.1 s).1),?_⟩
 cbv
 refine⟨[iA b,iA c,iA d,tA (qInt j),tA (qGOcc H),tA (qGOcc I),tA (qGOcc w),tA (qGOcc y),tA (qGOcc t),iA p],Gb2 s ((List.getElem?_eq_some_iff.1 s).1),?_⟩
 cbv
 refine bcs (fun ek=>?_) (fun ek=>?_)
 replace hh:=ifT hh ek
 try rw[ek]
 cbv
 ·refine C (_,_,_,_) _ hh fun⟨F,G,R,T⟩ e=>?_
  refine aq [((0,0),(0,0)),((7,50),(34,0)),((14,0),(14,0))] ?_
  cbv
  all_goals exact J4
 replace hh:=ifF hh ek
 try rw[ek]
 cbv
 refine⟨[iA b,iA c,iA d,tA (qInt j),tA (qGOcc H),tA (qGOcc I),tA (qGOcc w),tA (qGOcc y),tA (qGOcc t),iA (wrap .i64 (add p (cast (len (qGOcc Gc)))))],Gb2 s ((List.getElem?_eq_some_iff.1 s).1),?_⟩
 cbv
 ·refine C (_,_,_,_) _ hh fun⟨F,G,R,T⟩ e=>?_
  refine aq [((0,0),(0,0)),((7,50),(34,0)),((14,0),(14,0))] ?_
  cbv
  all_goals exact J4
 replace hh:=ifF hh Z
 try rw[Z]
 cbv
 refine bcs (fun EJ=>?_) (fun EJ=>?_)
 replace hh:=ifT hh EJ
 try rw[EJ]
 cbv
 refine⟨[iA b,iA c,iA d,tA (qInt j),tA (qGOcc u),tA (qGOcc v),tA (qGOcc w),tA (qGOcc y),tA (qGOcc t),iA p],Gb s,?_⟩
 cbv
 obtain⟨Hd,hh⟩:=ac hh
 obtain⟨He,Hf,hh⟩:=af hh
 obtain⟨Hg,hh⟩:=ac hh
 obtain⟨Hh,hh⟩:=ac hh
 obtain⟨Gr,Hi,hh⟩:=af hh
 refine⟨[(5,0),(9,0),(1007,50),(1014,0)],?_⟩
 cbv
 refine⟨tA (qGOcc Gr),?_,?_⟩
 ·refine ec hC (bU [] [185] [216]) mixed (ts:=[(4,none)]) Tryz.func216 (by kernel_rfl) (by kernel_rfl) ?_
  intro S N
  cbv
  refine⟨[iA b,iA c,iA d,tA (qInt j),tA (qGOcc u),tA (qGOcc v),tA (qGOcc w),tA (qGOcc y),tA (qGOcc t),iA p],Gb s,?_⟩
  cbv
  refine⟨[iA He],Nb Hd,Gb Hf,?_⟩
  cbv
  refine⟨Nb Hg,Mb Hh,?_⟩
  refine⟨[tA (qGOcc Gr)],Gb Hi,?_⟩
  cbv
  exact Rb
 cbv
 obtain⟨Hj,hh⟩:=ac hh
 obtain⟨Hk,Hl,hh⟩:=af hh
 obtain⟨Hm,hh⟩:=ac hh
 obtain⟨Hn,hh⟩:=ac hh
 obtain⟨Gs,Ho,hh⟩:=af hh
 refine⟨[(5,0),(9,0),(1007,50),(1014,0)],?_⟩
 cbv
 refine⟨tA (qGOcc Gs),?_,?_⟩
 ·refine ec hC (bU [] [185] [216]) mixed (ts:=[(4,none)]) Tryz.func216 (by kernel_rfl) (by kernel_rfl) ?_
  intro S N
  cbv
  refine⟨[iA b,iA c,iA d,tA (qInt j),tA (qGOcc u),tA (qGOcc v),tA (qGOcc w),tA (qGOcc y),tA (qGOcc t),iA p],Gb s,?_⟩
  cbv
  refine⟨[iA Hk],Nb Hj,Gb Hl,?_⟩
  cbv
  refine⟨Nb Hm,Mb Hn,?_⟩
  refine⟨[tA (qGOcc Gs)],Gb Ho,?_⟩
  cbv
  exact Rb
 cbv
 obtain⟨⟨⟨J,K⟩,Gd⟩,Hp,hh⟩:=af hh
 try dsimp only at hh
 have fc:=kV hQ Hp
 try dsimp only at fc
 refine ag hF fc ?_
 cbv
 refine⟨[iA b,iA c,iA d,tA (qInt j),tA (qGOcc u),tA (qGOcc v),tA (qGOcc w),tA (qGOcc y),tA (qGOcc t),iA p],Gb s,?_⟩
 cbv
 refine⟨⟨(⟨[(0,.mptr (0,0) 1 0 0),(1,iA p1),(2,.lit (.pointer none)),(7,.ref (7,50) 1 0 (len (qLGOcc A))),(9,.mptr (14,0) 1 (nadd 0 (toNat z)) 0),(15,iA (cast (len (qGNode p0b)))),(16,iA z),(30,tA (qGOcc Gd)),(1000000,.mptr (0,0) 1 0 0)],[((0,0),.box 1 [iA p0a,.ref (14,0) 1 0 (len (qGNode B)),iA p0c,iA p0d,bA D]),((7,50),.arr 1 1 (qLGOcc A)),((14,0),.arr 1 10 (set (qGNode B) (nadd 0 (toNat z)) [iA b,iA c,iA d,tA (qInt j),tA (qGOcc J),tA (qGOcc K),tA (qGOcc w),tA (qGOcc y),tA (qGOcc t),iA p]))]⟩:St),?_,?_⟩,trivial⟩
 ·refine aq [((0,0),(1000,0)),((7,50),(1007,50)),((14,0),(1014,0))] ?_
  cbv
  all_goals exact Zb
 cbv
 obtain⟨Hq,hh⟩:=ac hh
 refine⟨⟨Ob,Ab⟩,?_⟩
 refine⟨⟨Ob,Wb Hq⟩,?_⟩
 refine⟨[iA b,iA c,iA d,tA (qInt j),tA (qGOcc J),tA (qGOcc K),tA (qGOcc w),tA (qGOcc y),tA (qGOcc t),iA p],Gb2 s ((List.getElem?_eq_some_iff.1 s).1),?_⟩
 cbv
 refine⟨[iA b,iA c,iA d,tA (qInt j),tA (qGOcc J),tA (qGOcc K),tA (qGOcc w),tA (qGOcc y),tA (qGOcc t),iA p],Gb2 s ((List.getElem?_eq_some_iff.1 s).1),?_⟩
 cbv
 refine bcs (fun E2=>?_) (fun E2=>?_)
 replace hh:=ifT hh E2
 try rw[E2]
 cbv
 ·refine C (_,_,_,_) _ hh fun⟨F,G,R,T⟩ e=>?_
  refine aq [((0,0),(0,0)),((7,50),(34,0)),((14,0),(14,0))] ?_
  cbv
  all_goals exact J4
 replace hh:=ifF hh E2
 try rw[E2]
 cbv
 refine⟨[iA b,iA c,iA d,tA (qInt j),tA (qGOcc J),tA (qGOcc K),tA (qGOcc w),tA (qGOcc y),tA (qGOcc t),iA (wrap .i64 (add p (cast (len (qGOcc Gd)))))],Gb2 s ((List.getElem?_eq_some_iff.1 s).1),?_⟩
 cbv
 ·refine C (_,_,_,_) _ hh fun⟨F,G,R,T⟩ e=>?_
  refine aq [((0,0),(0,0)),((7,50),(34,0)),((14,0),(14,0))] ?_
  cbv
  all_goals exact J4
 replace hh:=ifF hh EJ
 try rw[EJ]
 cbv
 refine bcs (fun E3=>?_) (fun E3=>?_)
 replace hh:=ifT hh E3
 try rw[E3]
 cbv
 refine⟨[iA b,iA c,iA d,tA (qInt j),tA (qGOcc u),tA (qGOcc v),tA (qGOcc w),tA (qGOcc y),tA (qGOcc t),iA p],Gb s,?_⟩
 cbv
 obtain⟨Hr,hh⟩:=ac hh
 obtain⟨Hs,Ht,hh⟩:=af hh
 obtain⟨Hu,hh⟩:=ac hh
 obtain⟨Hv,hh⟩:=ac hh
 obtain⟨Gt,Hw,hh⟩:=af hh
 refine⟨[(5,0),(9,0),(1007,50),(1014,0)],?_⟩
 cbv
 refine⟨tA (qGOcc Gt),?_,?_⟩
 ·refine ec hC (bU [] [185] [216]) mixed (ts:=[(4,none)]) Tryz.func216 (by kernel_rfl) (by kernel_rfl) ?_
  intro S N
  cbv
  refine⟨[iA b,iA c,iA d,tA (qInt j),tA (qGOcc u),tA (qGOcc v),tA (qGOcc w),tA (qGOcc y),tA (qGOcc t),iA p],Gb s,?_⟩
  cbv
  refine⟨[iA Hs],Nb Hr,Gb Ht,?_⟩
  cbv
  refine⟨Nb Hu,Mb Hv,?_⟩
  refine⟨[tA (qGOcc Gt)],Gb Hw,?_⟩
  cbv
  exact Rb
 cbv
 obtain⟨Hx,hh⟩:=ac hh
 obtain⟨Hy,Hz,hh⟩:=af hh
 obtain⟨HA,hh⟩:=ac hh
 obtain⟨HB,hh⟩:=ac hh
 obtain⟨Gu,HC,hh⟩:=af hh
 refine⟨[(5,0),(9,0),(1007,50),(1014,0)],?_⟩
 cbv
 refine⟨tA (qGOcc Gu),?_,?_⟩
 ·refine ec hC (bU [] [185] [216]) mixed (ts:=[(4,none)]) Tryz.func216 (by kernel_rfl) (by kernel_rfl) ?_
  intro S N
  cbv
  refine⟨[iA b,iA c,iA d,tA (qInt j),tA (qGOcc u),tA (qGOcc v),tA (qGOcc w),tA (qGOcc y),tA (qGOcc t),iA p],Gb s,?_⟩
  cbv
  refine⟨[iA Hy],Nb Hx,Gb Hz,?_⟩
  cbv
  refine⟨Nb HA,Mb HB,?_⟩
  refine⟨[tA (qGOcc Gu)],Gb HC,?_⟩
  cbv
  exact Rb
 cbv
 obtain⟨HD,hh⟩:=ac hh
 obtain⟨HE,HF,hh⟩:=af hh
 obtain⟨HG,hh⟩:=ac hh
 obtain⟨HH,hh⟩:=ac hh
 obtain⟨Gv,HI,hh⟩:=af hh
 refine⟨[(5,0),(9,0),(1007,50),(1014,0)],?_⟩
 cbv
 refine⟨tA (qGOcc Gv),?_,?_⟩
 ·refine ec hC (bU [] [185] [216]) mixed (ts:=[(4,none)]) Tryz.func216 (by kernel_rfl) (by kernel_rfl) ?_
  intro S N
  cbv
  refine⟨[iA b,iA c,iA d,tA (qInt j),tA (qGOcc u),tA (qGOcc v),tA (qGOcc w),tA (qGOcc y),tA (qGOcc t),iA p],Gb s,?_⟩
  cbv
  refine⟨[iA HE],Nb HD,Gb HF,?_⟩
  cbv
  refine⟨Nb HG,Mb HH,?_⟩
  refine⟨[tA (qGOcc Gv)],Gb HI,?_⟩
  cbv
  exact Rb
 cbv
 obtain⟨⟨⟨L,M⟩,Ge⟩,HJ,hh⟩:=af hh
 try dsimp only at hh
 have fc:=kW hQ HJ
 try dsimp only at fc
 refine ag hF fc ?_
 cbv
 refine⟨[iA b,iA c,iA d,tA (qInt j),tA (qGOcc u),tA (qGOcc v),tA (qGOcc w),tA (qGOcc y),tA (qGOcc t),iA p],Gb s,?_⟩
 cbv
 refine⟨⟨(⟨[(0,.mptr (0,0) 1 0 0),(1,iA p1),(2,.lit (.pointer none)),(7,.ref (7,50) 1 0 (len (qLGOcc A))),(9,.mptr (14,0) 1 (nadd 0 (toNat z)) 0),(15,iA (cast (len (qGNode p0b)))),(16,iA z),(30,tA (qGOcc Ge)),(1000000,.mptr (0,0) 1 0 0)],[((0,0),.box 1 [iA p0a,.ref (14,0) 1 0 (len (qGNode B)),iA p0c,iA p0d,bA D]),((7,50),.arr 1 1 (qLGOcc A)),((14,0),.arr 1 10 (set (qGNode B) (nadd 0 (toNat z)) [iA b,iA c,iA d,tA (qInt j),tA (qGOcc u),tA (qGOcc v),tA (qGOcc L),tA (qGOcc M),tA (qGOcc t),iA p]))]⟩:St),?_,?_⟩,trivial⟩
 ·refine aq [((0,0),(1000,0)),((7,50),(1007,50)),((14,0),(1014,0))] ?_
  cbv
  all_goals exact Zb
 cbv
 obtain⟨HK,hh⟩:=ac hh
 refine⟨⟨Ob,Ab⟩,?_⟩
 refine⟨⟨Ob,Wb HK⟩,?_⟩
 refine⟨[iA b,iA c,iA d,tA (qInt j),tA (qGOcc u),tA (qGOcc v),tA (qGOcc L),tA (qGOcc M),tA (qGOcc t),iA p],Gb2 s ((List.getElem?_eq_some_iff.1 s).1),?_⟩
 cbv
 refine⟨[iA b,iA c,iA d,tA (qInt j),tA (qGOcc u),tA (qGOcc v),tA (qGOcc L),tA (qGOcc M),tA (qGOcc t),iA p],Gb2 s ((List.getElem?_eq_some_iff.1 s).1),?_⟩
 cbv
 refine bcs (fun Ff=>?_) (fun Ff=>?_)
 replace hh:=ifT hh Ff
 try rw[Ff]
 cbv
 ·refine C (_,_,_,_) _ hh fun⟨F,G,R,T⟩ e=>?_
  refine aq [((0,0),(0,0)),((7,50),(34,0)),((14,0),(14,0))] ?_
  cbv
  all_goals exact J4
 replace hh:=ifF hh Ff
 try rw[Ff]
 cbv
 refine⟨[iA b,iA c,iA d,tA (qInt j),tA (qGOcc u),tA (qGOcc v),tA (qGOcc L),tA (qGOcc M),tA (qGOcc t),iA (wrap .i64 (add p (cast (len (qGOcc Ge)))))],Gb2 s ((List.getElem?_eq_some_iff.1 s).1),?_⟩
 cbv
 ·refine C (_,_,_,_) _ hh fun⟨F,G,R,T⟩ e=>?_
  refine aq [((0,0),(0,0)),((7,50),(34,0)),((14,0),(14,0))] ?_
  cbv
  all_goals exact J4
 replace hh:=ifF hh E3
 try rw[E3]
 cbv
 refine bcs (fun Fj=>?_) (fun Fj=>?_)
 replace hh:=ifT hh Fj
 try rw[Fj]
 cbv
 refine⟨[iA b,iA c,iA d,tA (qInt j),tA (qGOcc u),tA (qGOcc v),tA (qGOcc w),tA (qGOcc y),tA (qGOcc t),iA p],Gb s,?_⟩
 cbv
 obtain⟨HL,hh⟩:=ac hh
 obtain⟨HM,HO,hh⟩:=af hh
 obtain⟨HP,hh⟩:=ac hh
 obtain⟨HQ,hh⟩:=ac hh
 obtain⟨Gw,HR,hh⟩:=af hh
 refine⟨[(5,0),(9,0),(1007,50),(1014,0)],?_⟩
 cbv
 refine⟨tA (qGOcc Gw),?_,?_⟩
 ·refine ec hC (bU [] [185] [216]) mixed (ts:=[(4,none)]) Tryz.func216 (by kernel_rfl) (by kernel_rfl) ?_
  intro S N
  cbv
  refine⟨[iA b,iA c,iA d,tA (qInt j),tA (qGOcc u),tA (qGOcc v),tA (qGOcc w),tA (qGOcc y),tA (qGOcc t),iA p],Gb s,?_⟩
  cbv
  refine⟨[iA HM],Nb HL,Gb HO,?_⟩
  cbv
  refine⟨Nb HP,Mb HQ,?_⟩
  refine⟨[tA (qGOcc Gw)],Gb HR,?_⟩
  cbv
  exact Rb
 cbv
 obtain⟨HS,hh⟩:=ac hh
 obtain⟨HT,HU,hh⟩:=af hh
 obtain⟨HV,hh⟩:=ac hh
 obtain⟨HW,hh⟩:=ac hh
 obtain⟨Gx,HX,hh⟩:=af hh
 refine⟨[(5,0),(9,0),(1007,50),(1014,0)],?_⟩
 cbv
 refine⟨tA (qGOcc Gx),?_,?_⟩
 ·refine ec hC (bU [] [185] [216]) mixed (ts:=[(4,none)]) Tryz.func216 (by kernel_rfl) (by kernel_rfl) ?_
  intro S N
  cbv
  refine⟨[iA b,iA c,iA d,tA (qInt j),tA (qGOcc u),tA (qGOcc v),tA (qGOcc w),tA (qGOcc y),tA (qGOcc t),iA p],Gb s,?_⟩
  cbv
  refine⟨[iA HT],Nb HS,Gb HU,?_⟩
  cbv
  refine⟨Nb HV,Mb HW,?_⟩
  refine⟨[tA (qGOcc Gx)],Gb HX,?_⟩
  cbv
  exact Rb
 cbv
 obtain⟨HY,hh⟩:=ac hh
 obtain⟨HZ,H0,hh⟩:=af hh
 obtain⟨H1,hh⟩:=ac hh
 obtain⟨H2,hh⟩:=ac hh
 obtain⟨Gy,H3,hh⟩:=af hh
 refine⟨[(5,0),(9,0),(1007,50),(1014,0)],?_⟩
 cbv
 refine⟨tA (qGOcc Gy),?_,?_⟩
 ·refine ec hC (bU [] [185] [216]) mixed (ts:=[(4,none)]) Tryz.func216 (by kernel_rfl) (by kernel_rfl) ?_
  intro S N
  cbv
  refine⟨[iA b,iA c,iA d,tA (qInt j),tA (qGOcc u),tA (qGOcc v),tA (qGOcc w),tA (qGOcc y),tA (qGOcc t),iA p],Gb s,?_⟩
  cbv
  refine⟨[iA HZ],Nb HY,Gb H0,?_⟩
  cbv
  refine⟨Nb H1,Mb H2,?_⟩
  refine⟨[tA (qGOcc Gy)],Gb H3,?_⟩
  cbv
  exact Rb
 cbv
 obtain⟨⟨⟨O,Q⟩,Gf⟩,H4,hh⟩:=af hh
 try dsimp only at hh
 have fc:=jY hQ H4
 try dsimp only at fc
 refine ag hF fc ?_
 cbv
 refine⟨[iA b,iA c,iA d,tA (qInt j),tA (qGOcc u),tA (qGOcc v),tA (qGOcc w),tA (qGOcc y),tA (qGOcc t),iA p],Gb s,?_⟩
 cbv
 refine⟨⟨(⟨[(0,.mptr (0,0) 1 0 0),(1,iA p1),(2,.lit (.pointer none)),(7,.ref (7,50) 1 0 (len (qLGOcc A))),(9,.mptr (14,0) 1 (nadd 0 (toNat z)) 0),(15,iA (cast (len (qGNode p0b)))),(16,iA z),(30,tA (qGOcc Gf)),(1000000,.mptr (0,0) 1 0 0)],[((0,0),.box 1 [iA p0a,.ref (14,0) 1 0 (len (qGNode B)),iA p0c,iA p0d,bA D]),((7,50),.arr 1 1 (qLGOcc A)),((14,0),.arr 1 10 (set (qGNode B) (nadd 0 (toNat z)) [iA b,iA c,iA d,tA (qInt j),tA (qGOcc u),tA (qGOcc v),tA (qGOcc O),tA (qGOcc Q),tA (qGOcc t),iA p]))]⟩:St),?_,?_⟩,trivial⟩
 ·refine aq [((0,0),(1000,0)),((7,50),(1007,50)),((14,0),(1014,0))] ?_
  cbv
  all_goals exact Zb
 cbv
 obtain⟨H5,hh⟩:=ac hh
 refine⟨⟨Ob,Ab⟩,?_⟩
 refine⟨⟨Ob,Wb H5⟩,?_⟩
 refine⟨[iA b,iA c,iA d,tA (qInt j),tA (qGOcc u),tA (qGOcc v),tA (qGOcc O),tA (qGOcc Q),tA (qGOcc t),iA p],Gb2 s ((List.getElem?_eq_some_iff.1 s).1),?_⟩
 cbv
 refine⟨[iA b,iA c,iA d,tA (qInt j),tA (qGOcc u),tA (qGOcc v),tA (qGOcc O),tA (qGOcc Q),tA (qGOcc t),iA p],Gb2 s ((List.getElem?_eq_some_iff.1 s).1),?_⟩
 cbv
 refine bcs (fun Fk=>?_) (fun Fk=>?_)
 replace hh:=ifT hh Fk
 try rw[Fk]
 cbv
 ·refine C (_,_,_,_) _ hh fun⟨F,G,R,T⟩ e=>?_
  refine aq [((0,0),(0,0)),((7,50),(34,0)),((14,0),(14,0))] ?_
  cbv
  all_goals exact J4
 replace hh:=ifF hh Fk
 try rw[Fk]
 cbv
 refine⟨[iA b,iA c,iA d,tA (qInt j),tA (qGOcc u),tA (qGOcc v),tA (qGOcc O),tA (qGOcc Q),tA (qGOcc t),iA (wrap .i64 (add p (cast (len (qGOcc Gf)))))],Gb2 s ((List.getElem?_eq_some_iff.1 s).1),?_⟩
 cbv
 ·refine C (_,_,_,_) _ hh fun⟨F,G,R,T⟩ e=>?_
  refine aq [((0,0),(0,0)),((7,50),(34,0)),((14,0),(14,0))] ?_
  cbv
  all_goals exact J4
 replace hh:=ifF hh Fj
 try rw[Fj]
 cbv
 refine⟨[iA b,iA c,iA d,tA (qInt j),tA (qGOcc u),tA (qGOcc v),tA (qGOcc w),tA (qGOcc y),tA (qGOcc t),iA p],Gb s,?_⟩
 cbv
 obtain⟨Fm,H6,hh⟩:=af hh
 refine ag hF (ak.frz (r':=tA (qGOcc Fm)) (eK hQ H6) (by cases hQ;simp)) ?_
 cbv
 refine⟨[iA b,iA c,iA d,tA (qInt j),tA (qGOcc u),tA (qGOcc v),tA (qGOcc w),tA (qGOcc y),tA (qGOcc t),iA p],Gb s,?_⟩
 cbv
 obtain⟨Gz,H7,hh⟩:=af hh
 refine ag hF (ak.frz (r':=tA (qGOcc Gz)) (gI hQ (g1:=fun y0=>dP.f y0 p1) (fun h=>mi hQ h) H7) (by cases hQ;simp)) ?_
 cbv
 refine⟨[iA b,iA c,iA d,tA (qInt j),tA (qGOcc u),tA (qGOcc v),tA (qGOcc w),tA (qGOcc y),tA (qGOcc t),iA p],Gb s,?_⟩
 cbv
 obtain⟨H8,hh⟩:=ac hh
 obtain⟨H9,Ia,hh⟩:=af hh
 obtain⟨Ib,hh⟩:=ac hh
 obtain⟨Ic,hh⟩:=ac hh
 obtain⟨Fo,Id,hh⟩:=af hh
 refine⟨[(5,0),(9,0),(1007,50),(1014,0)],?_⟩
 cbv
 refine⟨tA (qGOcc Fo),?_,?_⟩
 ·refine ec hC (bU [] [185] [216]) mixed (ts:=[(4,none)]) Tryz.func216 (by kernel_rfl) (by kernel_rfl) ?_
  intro S N
  cbv
  refine⟨[iA b,iA c,iA d,tA (qInt j),tA (qGOcc u),tA (qGOcc v),tA (qGOcc w),tA (qGOcc y),tA (qGOcc Gz),iA p],Gb2 s ((List.getElem?_eq_some_iff.1 s).1),?_⟩
  cbv
  refine⟨[iA H9],Nb H8,Gb Ia,?_⟩
  cbv
  refine⟨Nb Ib,Mb Ic,?_⟩
  refine⟨[tA (qGOcc Fo)],Gb Id,?_⟩
  cbv
  exact Rb
 cbv
 obtain⟨o2,Im,Io⟩:=af hh
 refine ay hC (bU [] [185] [216]) mixed (fun n (i:(List GNode)×Int)=>am.l2 k Fo z n i.1 i.2)
  (fun⟨Gi,GA⟩=>(⟨[(5,.mptr (5,0) 1 0 0),(12,tA (qGOcc Fm)),(36,tA (qGOcc Fo)),(37,iA (cast (len (qGOcc Fo)))),(38,iA GA),(2000000,.mptr (1000,0) 1 0 0),(2000001,iA p1),(2000002,.lit (.pointer none)),(2000007,.ref (1007,50) 1 0 (len (qLGOcc A))),(2000009,.mptr (1014,0) 1 (nadd 0 (toNat z)) 0),(2000015,iA (cast (len (qGNode p0b)))),(2000016,iA z),(3000000,.mptr (1000,0) 1 0 0)],[((5,0),.box 1 [.mptr (1014,0) 1 (nadd 0 (toNat z)) 0]),((1000,0),.box 1 [iA p0a,.ref (1014,0) 1 0 (len (qGNode Gi)),iA p0c,iA p0d,bA D]),((1007,50),.arr 1 1 (qLGOcc A)),((1014,0),.arr 1 10 (qGNode Gi))]⟩:St))
  (fun(Fp:List GNode)=>(⟨[(12,tA (qGOcc Fm)),(2000000,.mptr (1000,0) 1 0 0),(2000001,iA p1),(2000002,.lit (.pointer none)),(2000007,.ref (1007,50) 1 0 (len (qLGOcc A))),(2000009,.mptr (1014,0) 1 (nadd 0 (toNat z)) 0),(2000015,iA (cast (len (qGNode p0b)))),(2000016,iA z),(3000000,.mptr (1000,0) 1 0 0)],[((1000,0),.box 1 [iA p0a,.ref (1014,0) 1 0 (len (qGNode Fp)),iA p0c,iA p0d,bA D]),((1007,50),.arr 1 1 (qLGOcc A)),((1014,0),.arr 1 10 (qGNode Fp))]⟩:St)) (fun x=>x) (.exit 1)
  (i0:=(_,_)) Im (fun _=>rfl) ?_ ?_ ?_
 ·rintro⟨F,G⟩ e
  refine ai ?_
  cbv
  all_goals exact J2
 rintro Fp hx
 subst o2
 have hh:=Io
 cbv
 refine⟨⟨(⟨[(0,.mptr (0,0) 1 0 0),(1,iA p1),(2,.lit (.pointer none)),(7,.ref (7,50) 1 0 (len (qLGOcc A))),(9,.mptr (14,0) 1 (nadd 0 (toNat z)) 0),(15,iA (cast (len (qGNode p0b)))),(16,iA z),(30,tA (qGOcc Fm)),(1000000,.mptr (0,0) 1 0 0)],[((0,0),.box 1 [iA p0a,.ref (14,0) 1 0 (len (qGNode Fp)),iA p0c,iA p0d,bA D]),((7,50),.arr 1 1 (qLGOcc A)),((14,0),.arr 1 10 (qGNode Fp))]⟩:St),?_,?_⟩,trivial⟩
 ·refine aq [((0,0),(1000,0)),((7,50),(1007,50)),((14,0),(1014,0))] ?_
  cbv
  all_goals exact Zb
 cbv
 obtain⟨Ie,hh⟩:=ac hh
 refine⟨⟨Ob,Ab⟩,?_⟩
 refine⟨⟨Ob,Wb Ie⟩,?_⟩
 obtain⟨⟨Fu,Fx,Fz,FA,⟨FB,FE⟩,⟨FH,FI⟩,FJ,FM⟩,FN,hh⟩:=af hh
 try dsimp only at hh
 refine⟨[iA Fu,iA Fx,iA Fz,tA (qInt FA),tA (qGOcc FB),tA (qGOcc FE),tA (qGOcc FH),tA (qGOcc FI),tA (qGOcc FJ),iA FM],Gb FN,?_⟩
 cbv
 refine⟨[iA Fu,iA Fx,iA Fz,tA (qInt FA),tA (qGOcc FB),tA (qGOcc FE),tA (qGOcc FH),tA (qGOcc FI),tA (qGOcc FJ),iA FM],Gb FN,?_⟩
 cbv
 refine bcs (fun Fq=>?_) (fun Fq=>?_)
 replace hh:=ifT hh Fq
 try rw[Fq]
 cbv
 ·refine C (_,_,_,_) _ hh fun⟨F,G,R,T⟩ e=>?_
  refine aq [((0,0),(0,0)),((7,50),(34,0)),((14,0),(14,0))] ?_
  cbv
  all_goals exact J4
 replace hh:=ifF hh Fq
 try rw[Fq]
 cbv
 refine⟨[iA Fu,iA Fx,iA Fz,tA (qInt FA),tA (qGOcc FB),tA (qGOcc FE),tA (qGOcc FH),tA (qGOcc FI),tA (qGOcc FJ),iA (wrap .i64 (add FM (cast (len (qGOcc Fm)))))],Gb2 FN ((List.getElem?_eq_some_iff.1 FN).1),?_⟩
 cbv
 ·refine C (_,_,_,_) _ hh fun⟨F,G,R,T⟩ e=>?_
  refine aq [((0,0),(0,0)),((7,50),(34,0)),((14,0),(14,0))] ?_
  cbv
  all_goals exact J4
 rintro n ⟨Gi,GA⟩ N2 D2 hh Ip Iq Iy
 try dsimp only at hh
 unfold am.l2 at hh
 cbv
 refine bcs (fun Fr=>?_) (fun Fr=>?_)
 replace hh:=ifT hh Fr
 try rw[Fr]
 cbv
 obtain⟨If,hh⟩:=ac hh
 obtain⟨⟨GB,GC,GD⟩,Ig,hh⟩:=af hh
 try dsimp only at hh
 refine⟨[iA GB,iA GC,tA (qInt GD)],Nb If,Gb Ig,?_⟩
 cbv
 obtain⟨⟨FR,FT,FW,F4,⟨F5,F6⟩,⟨F7,F8⟩,F9,Ga⟩,Gj,hh⟩:=af hh
 try dsimp only at hh
 refine⟨[iA FR,iA FT,iA FW,tA (qInt F4),tA (qGOcc F5),tA (qGOcc F6),tA (qGOcc F7),tA (qGOcc F8),tA (qGOcc F9),iA Ga],Gb Gj,?_⟩
 cbv
 refine⟨[iA FR,iA FT,iA FW,tA (qInt F4),tA (qGOcc F5),tA (qGOcc F6),tA (qGOcc F7),tA (qGOcc F8),tA (qGOcc F9),iA Ga],Gb Gj,?_⟩
 cbv
 obtain⟨⟨Ir,Is,It⟩,Ih,hh⟩:=af hh
 try dsimp only at hh
 have fc:=kM hQ Ih
 try dsimp only at fc
 refine ag hF fc ?_
 cbv
 obtain⟨Iw,Ii,hh⟩:=af hh
 refine⟨Ob,?_⟩
 refine ag hF (jA hQ Ii) ?_
 cbv
 refine⟨[iA FR,iA FT,iA FW,tA (qInt F4),tA (qGOcc F5),tA (qGOcc F6),tA (qGOcc F7),tA (qGOcc F8),tA (qGOcc F9),iA Ga],Gb Gj,?_⟩
 cbv
 ·refine Ip (_,_) _ hh fun⟨F,G⟩ e=>?_
  refine ai ?_
  cbv
  all_goals exact J2
 replace hh:=ifF hh Fr
 try rw[Fr]
 cbv
 ·refine Iq _ _ hh fun F e=>?_
  refine ai ?_
  cbv
  all_goals exact J1
 replace hh:=ifF hh U
 try rw[U]
 cbv
 ·refine Il (_,_,_) _ hh fun⟨F,G,R⟩ e=>?_
  refine ai ?_
  cbv
  all_goals exact J3

end Go.Proofs.YtlbnmldopjadoaaGreat
