/- The functions of this program do what the plain ones do. -/
import Derived.Test.YtlbnmldopjadoaaGreatC3
namespace Go.Proofs.YtlbnmldopjadoaaGreat
open Go Go.Vm
set_option linter.unusedVariables false
set_option maxHeartbeats 4000000
set_option maxRecDepth 4000
variable {qIu8:List Int→Vm.Rows} {qInt:List Int→Vm.Rows} {qGExO:List GEx→Vm.Rows} {qGEx:List GEx→Vm.Rows} {qGEv:List GEv→Vm.Rows} {qGOcc:List GOcc→Vm.Rows} {qGNode:List GNode→Vm.Rows} {qLGOcc:List (List GOcc)→Vm.Rows} {qLInt:List (List Int)→Vm.Rows} {qGOccO:List GOcc→Vm.Rows} {qStr:List ByteArray→Vm.Rows} {qGNodeS:List GNode→Vm.Rows} {qBool:List Bool→Vm.Rows} (hQ:EQ qIu8 qInt qGExO qGEx qGEv qGOcc qGNode qLGOcc qLInt qGOccO qStr qGNodeS qBool)
include hQ
theorem pU {k:Nat} {p0:GGraph} {p1:Int} {p2:GEv} {r:(List GOcc)×GGraph×GEv} (hh:av.f k p0 p1 p2=some r):ak P 130 [.obox [iA p0.Mode,oA 10 (qGNode p0.Nodes),iA p0.Seen,iA p0.Now,bA p0.Full],iA p1,.obox [iA p2.Sym,iA p2.At,iA p2.Val]] [.obox [iA r.2.1.Mode,oA 10 (qGNode r.2.1.Nodes),iA r.2.1.Seen,iA r.2.1.Now,bA r.2.1.Full],hA,.obox [iA r.2.2.Sym,iA r.2.2.At,iA r.2.2.Val]] (tA (qGOcc r.1)):=by
 obtain⟨p0a,p0b,p0c,p0d,p0e⟩:=p0
 obtain⟨p2a,p2b,p2c⟩:=p2
 unfold av.f at hh
 refine goG (g:=[]) (i:=[185]) (o:=[216]) (sh:=[]) (ts:=[(6,none)]) (rm:=[.val]) (pm:=[.own,.skip,.own]) Tryz.func130 ?_
 unhygienic intros
 cbv
 obtain⟨o1,Im,Io⟩:=af hh
 refine ay hC (bU [] [185] [216]) mixed (fun n (i:(List GNode)×Bool×(List (List GOcc))×Int)=>av.l1 k (⟨p0a,p0b,p0c,p0d,p0e⟩:GGraph) p1 (⟨p2a,p2b,p2c⟩:GEv) n i.1 i.2.1 i.2.2.1 i.2.2.2)
  (fun⟨B,D,A,z⟩=>(⟨[(0,.mptr (0,0) 1 0 0),(1,iA p1),(2,.mptr (2,0) 1 0 0),(7,.ref (7,50) 1 0 (len (qLGOcc A))),(15,iA (cast (len (qGNode p0b)))),(16,iA z),(1000000,.mptr (0,0) 1 0 0),(1000002,.mptr (2,0) 1 0 0)],[((0,0),.box 1 [iA p0a,.ref (14,0) 1 0 (len (qGNode B)),iA p0c,iA p0d,bA D]),((2,0),.box 1 [iA p2a,iA p2b,iA p2c]),((7,50),.arr 1 1 (qLGOcc A)),((14,0),.arr 1 10 (qGNode B))]⟩:St))
  (fun(⟨Gi,Gj,Gm⟩:(List (List GOcc))×(List GNode)×Bool)=>(⟨[(7,.ref (7,50) 1 0 (len (qLGOcc Gi))),(1000000,.mptr (0,0) 1 0 0),(1000002,.mptr (2,0) 1 0 0)],[((0,0),.box 1 [iA p0a,.ref (14,0) 1 0 (len (qGNode Gj)),iA p0c,iA p0d,bA Gm]),((2,0),.box 1 [iA p2a,iA p2b,iA p2c]),((7,50),.arr 1 1 (qLGOcc Gi)),((14,0),.arr 1 10 (qGNode Gj))]⟩:St)) (fun x=>x) (.exit 0)
  (i0:=(_,_,_,_)) Im (fun _=>rfl) ?_ ?_ ?_
 ·rintro⟨F,G,H,T⟩ e
  refine aq [((0,0),(0,0)),((2,0),(2,0)),((14,0),(14,0))] ?_
  cbv
  all_goals exact J4
 rintro⟨Gi,Gj,Gm⟩ hx
 subst o1
 have hh:=Io
 cbv
 obtain⟨GG,hh⟩:=ac hh
 obtain⟨GH,hh⟩:=ac hh
 refine⟨Nb GG,Mb GH,?_⟩
 obtain⟨GI,GJ,hh⟩:=af hh
 refine⟨[tA (qGOcc GI)],Gb GJ,?_⟩
 cbv
 exact Eb
 rintro n ⟨B,D,A,z⟩ N1 D1 hh C Ip IA
 try dsimp only at hh
 unfold av.l1 at hh
 cbv
 refine bcs (fun U=>?_) (fun U=>?_)
 replace hh:=ifT hh U
 try rw[U]
 cbv
 obtain⟨GK,hh⟩:=ac hh
 obtain⟨GL,hh⟩:=ac hh
 refine⟨Nb GK,Mb GL,?_⟩
 refine yb hC (bU [] [185] [216]) mixed (ts:=[(10,none)]) (⟨[(0,.mptr (1014,0) 1 (nadd 0 (toNat z)) 0),(1,.mptr (1000,0) 1 0 0),(2,iA p1),(3,.mptr (1002,0) 1 0 0),(4,.ref (1007,50) 1 0 (len (qLGOcc A))),(2000000,.mptr (1000,0) 1 0 0),(2000001,iA p1),(2000002,.mptr (1002,0) 1 0 0),(2000007,.ref (1007,50) 1 0 (len (qLGOcc A))),(2000009,.mptr (1014,0) 1 (nadd 0 (toNat z)) 0),(2000015,iA (cast (len (qGNode p0b)))),(2000016,iA z),(3000000,.mptr (1000,0) 1 0 0),(3000002,.mptr (1002,0) 1 0 0)],[((1000,0),.box 1 [iA p0a,.ref (1014,0) 1 0 (len (qGNode B)),iA p0c,iA p0d,bA D]),((1002,0),.box 1 [iA p2a,iA p2b,iA p2c]),((1007,50),.arr 1 1 (qLGOcc A)),((1014,0),.arr 1 10 (qGNode B))]⟩:St) Tryz.func185 (by kernel_rfl) (by kernel_rfl) ?_ ?_
 ·refine aq [((1000,0),(0,0)),((1002,0),(2,0)),((1007,50),(7,50)),((1014,0),(14,0))] ?_
  cbv
  all_goals exact Zb
 cbv
 obtain⟨⟨b,c,d,j,⟨u,v⟩,⟨w,y⟩,t,p⟩,s,hh⟩:=af hh
 try dsimp only at hh
 refine⟨[iA b,iA c,iA d,tA (qInt j),tA (qGOcc u),tA (qGOcc v),tA (qGOcc w),tA (qGOcc y),tA (qGOcc t),iA p],Gb s,?_⟩
 cbv
 refine bcs (fun V=>?_) (fun V=>?_)
 replace hh:=ifT hh V
 try rw[V]
 cbv
 refine⟨[iA b,iA c,iA d,tA (qInt j),tA (qGOcc u),tA (qGOcc v),tA (qGOcc w),tA (qGOcc y),tA (qGOcc t),iA p],Gb s,?_⟩
 cbv
 refine bcs (fun W=>?_) (fun W=>?_)
 replace hh:=ifT hh W
 try rw[W]
 cbv
 refine⟨Ob,?_⟩
 refine⟨⟨(⟨[(0,.mptr (0,0) 1 0 0),(1,iA p1),(2,.mptr (2,0) 1 0 0),(7,.ref (7,50) 1 0 (len (qLGOcc A))),(9,.mptr (14,0) 1 (nadd 0 (toNat z)) 0),(15,iA (cast (len (qGNode p0b)))),(16,iA z),(30,.ref (2080,0) 1 0 1),(1000000,.mptr (0,0) 1 0 0),(1000002,.mptr (2,0) 1 0 0)],[((0,0),.box 1 [iA p0a,.ref (14,0) 1 0 (len (qGNode B)),iA p0c,iA p0d,bA D]),((2,0),.box 1 [iA p2a,iA p2b,iA p2c]),((7,50),.arr 1 1 (qLGOcc A)),((14,0),.arr 1 10 (qGNode B)),((2080,0),.farr 1 3 (qGOcc [((⟨p1,p1,[p0c]⟩:GOcc))]))]⟩:St),?_,?_⟩,trivial⟩
 ·refine aq [((0,0),(1000,0)),((2,0),(1002,0)),((7,50),(1007,50)),((14,0),(1014,0)),((2080,0),(80,0))] ?_
  cbv
  all_goals exact Zb
 cbv
 refine⟨Ob,?_⟩
 obtain⟨GM,hh⟩:=ac hh
 refine⟨⟨Ob,Ab⟩,?_⟩
 refine⟨⟨Ob,Wb GM⟩,?_⟩
 refine⟨[iA b,iA c,iA d,tA (qInt j),tA (qGOcc u),tA (qGOcc v),tA (qGOcc w),tA (qGOcc y),tA (qGOcc t),iA p],Gb s,?_⟩
 cbv
 refine⟨[iA b,iA c,iA d,tA (qInt j),tA (qGOcc u),tA (qGOcc v),tA (qGOcc w),tA (qGOcc y),tA (qGOcc t),iA p],Gb s,?_⟩
 cbv
 refine bcs (fun X=>?_) (fun X=>?_)
 replace hh:=ifT hh X
 try rw[X]
 cbv
 ·refine C (_,_,_,_) _ hh fun⟨F,G,H,T⟩ e=>?_
  refine aq [((0,0),(0,0)),((2,0),(2,0)),((7,50),(34,0)),((14,0),(14,0))] ?_
  cbv
  all_goals exact J4
 replace hh:=ifF hh X
 try rw[X]
 cbv
 refine⟨[iA b,iA c,iA d,tA (qInt j),tA (qGOcc u),tA (qGOcc v),tA (qGOcc w),tA (qGOcc y),tA (qGOcc t),iA (wrap .i64 (add p (cast 1)))],Gb2 s ((List.getElem?_eq_some_iff.1 s).1),?_⟩
 cbv
 ·refine C (_,_,_,_) _ hh fun⟨F,G,H,T⟩ e=>?_
  refine aq [((0,0),(0,0)),((2,0),(2,0)),((7,50),(34,0)),((14,0),(14,0))] ?_
  cbv
  all_goals exact J4
 replace hh:=ifF hh W
 try rw[W]
 cbv
 refine⟨⟨(⟨[(0,.mptr (0,0) 1 0 0),(1,iA p1),(2,.mptr (2,0) 1 0 0),(7,.ref (7,50) 1 0 (len (qLGOcc A))),(9,.mptr (14,0) 1 (nadd 0 (toNat z)) 0),(15,iA (cast (len (qGNode p0b)))),(16,iA z),(30,.lit (.slice none 0 0)),(1000000,.mptr (0,0) 1 0 0),(1000002,.mptr (2,0) 1 0 0)],[((0,0),.box 1 [iA p0a,.ref (14,0) 1 0 (len (qGNode B)),iA p0c,iA p0d,bA D]),((2,0),.box 1 [iA p2a,iA p2b,iA p2c]),((7,50),.arr 1 1 (qLGOcc A)),((14,0),.arr 1 10 (qGNode B))]⟩:St),?_,?_⟩,trivial⟩
 ·refine aq [((0,0),(1000,0)),((2,0),(1002,0)),((7,50),(1007,50)),((14,0),(1014,0))] ?_
  cbv
  all_goals exact Zb
 cbv
 refine⟨none,?_⟩;try cbv
 obtain⟨GN,hh⟩:=ac hh
 refine⟨⟨Ob,Ab⟩,?_⟩
 refine⟨⟨Ob,Wb GN⟩,?_⟩
 refine⟨[iA b,iA c,iA d,tA (qInt j),tA (qGOcc u),tA (qGOcc v),tA (qGOcc w),tA (qGOcc y),tA (qGOcc t),iA p],Gb s,?_⟩
 cbv
 refine⟨[iA b,iA c,iA d,tA (qInt j),tA (qGOcc u),tA (qGOcc v),tA (qGOcc w),tA (qGOcc y),tA (qGOcc t),iA p],Gb s,?_⟩
 cbv
 refine bcs (fun Y=>?_) (fun Y=>?_)
 replace hh:=ifT hh Y
 try rw[Y]
 cbv
 ·refine C (_,_,_,_) _ hh fun⟨F,G,H,T⟩ e=>?_
  refine aq [((0,0),(0,0)),((2,0),(2,0)),((7,50),(34,0)),((14,0),(14,0))] ?_
  cbv
  all_goals exact J4
 replace hh:=ifF hh Y
 try rw[Y]
 cbv
 refine⟨[iA b,iA c,iA d,tA (qInt j),tA (qGOcc u),tA (qGOcc v),tA (qGOcc w),tA (qGOcc y),tA (qGOcc t),iA (wrap .i64 (add p 0))],Gb2 s ((List.getElem?_eq_some_iff.1 s).1),?_⟩
 cbv
 ·refine C (_,_,_,_) _ hh fun⟨F,G,H,T⟩ e=>?_
  refine aq [((0,0),(0,0)),((2,0),(2,0)),((7,50),(34,0)),((14,0),(14,0))] ?_
  cbv
  all_goals exact J4
 replace hh:=ifF hh V
 try rw[V]
 cbv
 refine bcs (fun Z=>?_) (fun Z=>?_)
 replace hh:=ifT hh Z
 try rw[Z]
 cbv
 obtain⟨GO,hh⟩:=ac hh
 obtain⟨GP,GQ,hh⟩:=af hh
 obtain⟨GR,hh⟩:=ac hh
 obtain⟨GS,hh⟩:=ac hh
 obtain⟨Gn,GT,hh⟩:=af hh
 refine⟨[(5,0),(9,0),(1007,50),(1014,0)],?_⟩
 cbv
 refine⟨tA (qGOcc Gn),?_,?_⟩
 ·refine ec hC (bU [] [185] [216]) mixed (ts:=[(4,none)]) Tryz.func216 (by kernel_rfl) (by kernel_rfl) ?_
  intro S N
  cbv
  refine⟨[iA b,iA c,iA d,tA (qInt j),tA (qGOcc u),tA (qGOcc v),tA (qGOcc w),tA (qGOcc y),tA (qGOcc t),iA p],Gb s,?_⟩
  cbv
  refine⟨[iA GP],Nb GO,Gb GQ,?_⟩
  cbv
  refine⟨Nb GR,Mb GS,?_⟩
  refine⟨[tA (qGOcc Gn)],Gb GT,?_⟩
  cbv
  exact Rb
 cbv
 obtain⟨GU,hh⟩:=ac hh
 obtain⟨GV,GW,hh⟩:=af hh
 obtain⟨GX,hh⟩:=ac hh
 obtain⟨GY,hh⟩:=ac hh
 obtain⟨Gp,GZ,hh⟩:=af hh
 refine⟨[(5,0),(9,0),(1007,50),(1014,0)],?_⟩
 cbv
 refine⟨tA (qGOcc Gp),?_,?_⟩
 ·refine ec hC (bU [] [185] [216]) mixed (ts:=[(4,none)]) Tryz.func216 (by kernel_rfl) (by kernel_rfl) ?_
  intro S N
  cbv
  refine⟨[iA b,iA c,iA d,tA (qInt j),tA (qGOcc u),tA (qGOcc v),tA (qGOcc w),tA (qGOcc y),tA (qGOcc t),iA p],Gb s,?_⟩
  cbv
  refine⟨[iA GV],Nb GU,Gb GW,?_⟩
  cbv
  refine⟨Nb GX,Mb GY,?_⟩
  refine⟨[tA (qGOcc Gp)],Gb GZ,?_⟩
  cbv
  exact Rb
 cbv
 obtain⟨Gq,G0,hh⟩:=af hh
 refine ag hF (bL hQ G0) ?_
 cbv
 refine⟨⟨(⟨[(0,.mptr (0,0) 1 0 0),(1,iA p1),(2,.mptr (2,0) 1 0 0),(7,.ref (7,50) 1 0 (len (qLGOcc A))),(9,.mptr (14,0) 1 (nadd 0 (toNat z)) 0),(15,iA (cast (len (qGNode p0b)))),(16,iA z),(30,tA (qGOcc Gq)),(1000000,.mptr (0,0) 1 0 0),(1000002,.mptr (2,0) 1 0 0)],[((0,0),.box 1 [iA p0a,.ref (14,0) 1 0 (len (qGNode B)),iA p0c,iA p0d,bA D]),((2,0),.box 1 [iA p2a,iA p2b,iA p2c]),((7,50),.arr 1 1 (qLGOcc A)),((14,0),.arr 1 10 (qGNode B))]⟩:St),?_,?_⟩,trivial⟩
 ·refine aq [((0,0),(1000,0)),((2,0),(1002,0)),((7,50),(1007,50)),((14,0),(1014,0))] ?_
  cbv
  all_goals exact Zb
 cbv
 obtain⟨G1,hh⟩:=ac hh
 refine⟨⟨Ob,Ab⟩,?_⟩
 refine⟨⟨Ob,Wb G1⟩,?_⟩
 refine⟨[iA b,iA c,iA d,tA (qInt j),tA (qGOcc u),tA (qGOcc v),tA (qGOcc w),tA (qGOcc y),tA (qGOcc t),iA p],Gb s,?_⟩
 cbv
 refine⟨[iA b,iA c,iA d,tA (qInt j),tA (qGOcc u),tA (qGOcc v),tA (qGOcc w),tA (qGOcc y),tA (qGOcc t),iA p],Gb s,?_⟩
 cbv
 refine bcs (fun ek=>?_) (fun ek=>?_)
 replace hh:=ifT hh ek
 try rw[ek]
 cbv
 ·refine C (_,_,_,_) _ hh fun⟨F,G,H,T⟩ e=>?_
  refine aq [((0,0),(0,0)),((2,0),(2,0)),((7,50),(34,0)),((14,0),(14,0))] ?_
  cbv
  all_goals exact J4
 replace hh:=ifF hh ek
 try rw[ek]
 cbv
 refine⟨[iA b,iA c,iA d,tA (qInt j),tA (qGOcc u),tA (qGOcc v),tA (qGOcc w),tA (qGOcc y),tA (qGOcc t),iA (wrap .i64 (add p (cast (len (qGOcc Gq)))))],Gb2 s ((List.getElem?_eq_some_iff.1 s).1),?_⟩
 cbv
 ·refine C (_,_,_,_) _ hh fun⟨F,G,H,T⟩ e=>?_
  refine aq [((0,0),(0,0)),((2,0),(2,0)),((7,50),(34,0)),((14,0),(14,0))] ?_
  cbv
  all_goals exact J4
 replace hh:=ifF hh Z
 try rw[Z]
 cbv
 refine bcs (fun EJ=>?_) (fun EJ=>?_)
 replace hh:=ifT hh EJ
 try rw[EJ]
 cbv
 refine⟨[iA b,iA c,iA d,tA (qInt j),tA (qGOcc u),tA (qGOcc v),tA (qGOcc w),tA (qGOcc y),tA (qGOcc t),iA p],Gb s,?_⟩
 cbv
 obtain⟨G2,hh⟩:=ac hh
 obtain⟨G3,G4,hh⟩:=af hh
 obtain⟨G5,hh⟩:=ac hh
 obtain⟨G6,hh⟩:=ac hh
 obtain⟨Gr,G7,hh⟩:=af hh
 refine⟨[(5,0),(9,0),(1007,50),(1014,0)],?_⟩
 cbv
 refine⟨tA (qGOcc Gr),?_,?_⟩
 ·refine ec hC (bU [] [185] [216]) mixed (ts:=[(4,none)]) Tryz.func216 (by kernel_rfl) (by kernel_rfl) ?_
  intro S N
  cbv
  refine⟨[iA b,iA c,iA d,tA (qInt j),tA (qGOcc u),tA (qGOcc v),tA (qGOcc w),tA (qGOcc y),tA (qGOcc t),iA p],Gb s,?_⟩
  cbv
  refine⟨[iA G3],Nb G2,Gb G4,?_⟩
  cbv
  refine⟨Nb G5,Mb G6,?_⟩
  refine⟨[tA (qGOcc Gr)],Gb G7,?_⟩
  cbv
  exact Rb
 cbv
 obtain⟨G8,hh⟩:=ac hh
 obtain⟨G9,Ha,hh⟩:=af hh
 obtain⟨Hb,hh⟩:=ac hh
 obtain⟨Hc,hh⟩:=ac hh
 obtain⟨Gs,Hd,hh⟩:=af hh
 refine⟨[(5,0),(9,0),(1007,50),(1014,0)],?_⟩
 cbv
 refine⟨tA (qGOcc Gs),?_,?_⟩
 ·refine ec hC (bU [] [185] [216]) mixed (ts:=[(4,none)]) Tryz.func216 (by kernel_rfl) (by kernel_rfl) ?_
  intro S N
  cbv
  refine⟨[iA b,iA c,iA d,tA (qInt j),tA (qGOcc u),tA (qGOcc v),tA (qGOcc w),tA (qGOcc y),tA (qGOcc t),iA p],Gb s,?_⟩
  cbv
  refine⟨[iA G9],Nb G8,Gb Ha,?_⟩
  cbv
  refine⟨Nb Hb,Mb Hc,?_⟩
  refine⟨[tA (qGOcc Gs)],Gb Hd,?_⟩
  cbv
  exact Rb
 cbv
 obtain⟨⟨⟨I,J⟩,Ge⟩,He,hh⟩:=af hh
 try dsimp only at hh
 have fc:=kF hQ He
 try dsimp only at fc
 refine ag hF fc ?_
 cbv
 refine⟨[iA b,iA c,iA d,tA (qInt j),tA (qGOcc u),tA (qGOcc v),tA (qGOcc w),tA (qGOcc y),tA (qGOcc t),iA p],Gb s,?_⟩
 cbv
 refine⟨⟨(⟨[(0,.mptr (0,0) 1 0 0),(1,iA p1),(2,.mptr (2,0) 1 0 0),(7,.ref (7,50) 1 0 (len (qLGOcc A))),(9,.mptr (14,0) 1 (nadd 0 (toNat z)) 0),(15,iA (cast (len (qGNode p0b)))),(16,iA z),(30,tA (qGOcc Ge)),(1000000,.mptr (0,0) 1 0 0),(1000002,.mptr (2,0) 1 0 0)],[((0,0),.box 1 [iA p0a,.ref (14,0) 1 0 (len (qGNode B)),iA p0c,iA p0d,bA D]),((2,0),.box 1 [iA p2a,iA p2b,iA p2c]),((7,50),.arr 1 1 (qLGOcc A)),((14,0),.arr 1 10 (set (qGNode B) (nadd 0 (toNat z)) [iA b,iA c,iA d,tA (qInt j),tA (qGOcc I),tA (qGOcc J),tA (qGOcc w),tA (qGOcc y),tA (qGOcc t),iA p]))]⟩:St),?_,?_⟩,trivial⟩
 ·refine aq [((0,0),(1000,0)),((2,0),(1002,0)),((7,50),(1007,50)),((14,0),(1014,0))] ?_
  cbv
  all_goals exact Zb
 cbv
 obtain⟨Hf,hh⟩:=ac hh
 refine⟨⟨Ob,Ab⟩,?_⟩
 refine⟨⟨Ob,Wb Hf⟩,?_⟩
 refine⟨[iA b,iA c,iA d,tA (qInt j),tA (qGOcc I),tA (qGOcc J),tA (qGOcc w),tA (qGOcc y),tA (qGOcc t),iA p],Gb2 s ((List.getElem?_eq_some_iff.1 s).1),?_⟩
 cbv
 refine⟨[iA b,iA c,iA d,tA (qInt j),tA (qGOcc I),tA (qGOcc J),tA (qGOcc w),tA (qGOcc y),tA (qGOcc t),iA p],Gb2 s ((List.getElem?_eq_some_iff.1 s).1),?_⟩
 cbv
 refine bcs (fun E2=>?_) (fun E2=>?_)
 replace hh:=ifT hh E2
 try rw[E2]
 cbv
 ·refine C (_,_,_,_) _ hh fun⟨F,G,H,T⟩ e=>?_
  refine aq [((0,0),(0,0)),((2,0),(2,0)),((7,50),(34,0)),((14,0),(14,0))] ?_
  cbv
  all_goals exact J4
 replace hh:=ifF hh E2
 try rw[E2]
 cbv
 refine⟨[iA b,iA c,iA d,tA (qInt j),tA (qGOcc I),tA (qGOcc J),tA (qGOcc w),tA (qGOcc y),tA (qGOcc t),iA (wrap .i64 (add p (cast (len (qGOcc Ge)))))],Gb2 s ((List.getElem?_eq_some_iff.1 s).1),?_⟩
 cbv
 ·refine C (_,_,_,_) _ hh fun⟨F,G,H,T⟩ e=>?_
  refine aq [((0,0),(0,0)),((2,0),(2,0)),((7,50),(34,0)),((14,0),(14,0))] ?_
  cbv
  all_goals exact J4
 replace hh:=ifF hh EJ
 try rw[EJ]
 cbv
 refine bcs (fun E3=>?_) (fun E3=>?_)
 replace hh:=ifT hh E3
 try rw[E3]
 cbv
 refine⟨[iA b,iA c,iA d,tA (qInt j),tA (qGOcc u),tA (qGOcc v),tA (qGOcc w),tA (qGOcc y),tA (qGOcc t),iA p],Gb s,?_⟩
 cbv
 obtain⟨Hg,hh⟩:=ac hh
 obtain⟨Hh,Hi,hh⟩:=af hh
 obtain⟨Hj,hh⟩:=ac hh
 obtain⟨Hk,hh⟩:=ac hh
 obtain⟨Gt,Hl,hh⟩:=af hh
 refine⟨[(5,0),(9,0),(1007,50),(1014,0)],?_⟩
 cbv
 refine⟨tA (qGOcc Gt),?_,?_⟩
 ·refine ec hC (bU [] [185] [216]) mixed (ts:=[(4,none)]) Tryz.func216 (by kernel_rfl) (by kernel_rfl) ?_
  intro S N
  cbv
  refine⟨[iA b,iA c,iA d,tA (qInt j),tA (qGOcc u),tA (qGOcc v),tA (qGOcc w),tA (qGOcc y),tA (qGOcc t),iA p],Gb s,?_⟩
  cbv
  refine⟨[iA Hh],Nb Hg,Gb Hi,?_⟩
  cbv
  refine⟨Nb Hj,Mb Hk,?_⟩
  refine⟨[tA (qGOcc Gt)],Gb Hl,?_⟩
  cbv
  exact Rb
 cbv
 obtain⟨Hm,hh⟩:=ac hh
 obtain⟨Hn,Ho,hh⟩:=af hh
 obtain⟨Hp,hh⟩:=ac hh
 obtain⟨Hq,hh⟩:=ac hh
 obtain⟨Gu,Hr,hh⟩:=af hh
 refine⟨[(5,0),(9,0),(1007,50),(1014,0)],?_⟩
 cbv
 refine⟨tA (qGOcc Gu),?_,?_⟩
 ·refine ec hC (bU [] [185] [216]) mixed (ts:=[(4,none)]) Tryz.func216 (by kernel_rfl) (by kernel_rfl) ?_
  intro S N
  cbv
  refine⟨[iA b,iA c,iA d,tA (qInt j),tA (qGOcc u),tA (qGOcc v),tA (qGOcc w),tA (qGOcc y),tA (qGOcc t),iA p],Gb s,?_⟩
  cbv
  refine⟨[iA Hn],Nb Hm,Gb Ho,?_⟩
  cbv
  refine⟨Nb Hp,Mb Hq,?_⟩
  refine⟨[tA (qGOcc Gu)],Gb Hr,?_⟩
  cbv
  exact Rb
 cbv
 obtain⟨⟨⟨K,L⟩,Gf⟩,Hs,hh⟩:=af hh
 try dsimp only at hh
 have fc:=kV hQ Hs
 try dsimp only at fc
 refine ag hF fc ?_
 cbv
 refine⟨[iA b,iA c,iA d,tA (qInt j),tA (qGOcc u),tA (qGOcc v),tA (qGOcc w),tA (qGOcc y),tA (qGOcc t),iA p],Gb s,?_⟩
 cbv
 refine⟨⟨(⟨[(0,.mptr (0,0) 1 0 0),(1,iA p1),(2,.mptr (2,0) 1 0 0),(7,.ref (7,50) 1 0 (len (qLGOcc A))),(9,.mptr (14,0) 1 (nadd 0 (toNat z)) 0),(15,iA (cast (len (qGNode p0b)))),(16,iA z),(30,tA (qGOcc Gf)),(1000000,.mptr (0,0) 1 0 0),(1000002,.mptr (2,0) 1 0 0)],[((0,0),.box 1 [iA p0a,.ref (14,0) 1 0 (len (qGNode B)),iA p0c,iA p0d,bA D]),((2,0),.box 1 [iA p2a,iA p2b,iA p2c]),((7,50),.arr 1 1 (qLGOcc A)),((14,0),.arr 1 10 (set (qGNode B) (nadd 0 (toNat z)) [iA b,iA c,iA d,tA (qInt j),tA (qGOcc K),tA (qGOcc L),tA (qGOcc w),tA (qGOcc y),tA (qGOcc t),iA p]))]⟩:St),?_,?_⟩,trivial⟩
 ·refine aq [((0,0),(1000,0)),((2,0),(1002,0)),((7,50),(1007,50)),((14,0),(1014,0))] ?_
  cbv
  all_goals exact Zb
 cbv
 obtain⟨Ht,hh⟩:=ac hh
 refine⟨⟨Ob,Ab⟩,?_⟩
 refine⟨⟨Ob,Wb Ht⟩,?_⟩
 refine⟨[iA b,iA c,iA d,tA (qInt j),tA (qGOcc K),tA (qGOcc L),tA (qGOcc w),tA (qGOcc y),tA (qGOcc t),iA p],Gb2 s ((List.getElem?_eq_some_iff.1 s).1),?_⟩
 cbv
 refine⟨[iA b,iA c,iA d,tA (qInt j),tA (qGOcc K),tA (qGOcc L),tA (qGOcc w),tA (qGOcc y),tA (qGOcc t),iA p],Gb2 s ((List.getElem?_eq_some_iff.1 s).1),?_⟩
 cbv
 refine bcs (fun Ff=>?_) (fun Ff=>?_)
 replace hh:=ifT hh Ff
 try rw[Ff]
 cbv
 ·refine C (_,_,_,_) _ hh fun⟨F,G,H,T⟩ e=>?_
  refine aq [((0,0),(0,0)),((2,0),(2,0)),((7,50),(34,0)),((14,0),(14,0))] ?_
  cbv
  all_goals exact J4
 replace hh:=ifF hh Ff
 try rw[Ff]
 cbv
 refine⟨[iA b,iA c,iA d,tA (qInt j),tA (qGOcc K),tA (qGOcc L),tA (qGOcc w),tA (qGOcc y),tA (qGOcc t),iA (wrap .i64 (add p (cast (len (qGOcc Gf)))))],Gb2 s ((List.getElem?_eq_some_iff.1 s).1),?_⟩
 cbv
 ·refine C (_,_,_,_) _ hh fun⟨F,G,H,T⟩ e=>?_
  refine aq [((0,0),(0,0)),((2,0),(2,0)),((7,50),(34,0)),((14,0),(14,0))] ?_
  cbv
  all_goals exact J4
 replace hh:=ifF hh E3
 try rw[E3]
 cbv
 refine bcs (fun Fj=>?_) (fun Fj=>?_)
 replace hh:=ifT hh Fj
 try rw[Fj]
 cbv
 refine⟨[iA b,iA c,iA d,tA (qInt j),tA (qGOcc u),tA (qGOcc v),tA (qGOcc w),tA (qGOcc y),tA (qGOcc t),iA p],Gb s,?_⟩
 cbv
 obtain⟨Hu,hh⟩:=ac hh
 obtain⟨Hv,Hw,hh⟩:=af hh
 obtain⟨Hx,hh⟩:=ac hh
 obtain⟨Hy,hh⟩:=ac hh
 obtain⟨Gv,Hz,hh⟩:=af hh
 refine⟨[(5,0),(9,0),(1007,50),(1014,0)],?_⟩
 cbv
 refine⟨tA (qGOcc Gv),?_,?_⟩
 ·refine ec hC (bU [] [185] [216]) mixed (ts:=[(4,none)]) Tryz.func216 (by kernel_rfl) (by kernel_rfl) ?_
  intro S N
  cbv
  refine⟨[iA b,iA c,iA d,tA (qInt j),tA (qGOcc u),tA (qGOcc v),tA (qGOcc w),tA (qGOcc y),tA (qGOcc t),iA p],Gb s,?_⟩
  cbv
  refine⟨[iA Hv],Nb Hu,Gb Hw,?_⟩
  cbv
  refine⟨Nb Hx,Mb Hy,?_⟩
  refine⟨[tA (qGOcc Gv)],Gb Hz,?_⟩
  cbv
  exact Rb
 cbv
 obtain⟨HA,hh⟩:=ac hh
 obtain⟨HB,HC,hh⟩:=af hh
 obtain⟨HD,hh⟩:=ac hh
 obtain⟨HE,hh⟩:=ac hh
 obtain⟨Gw,HF,hh⟩:=af hh
 refine⟨[(5,0),(9,0),(1007,50),(1014,0)],?_⟩
 cbv
 refine⟨tA (qGOcc Gw),?_,?_⟩
 ·refine ec hC (bU [] [185] [216]) mixed (ts:=[(4,none)]) Tryz.func216 (by kernel_rfl) (by kernel_rfl) ?_
  intro S N
  cbv
  refine⟨[iA b,iA c,iA d,tA (qInt j),tA (qGOcc u),tA (qGOcc v),tA (qGOcc w),tA (qGOcc y),tA (qGOcc t),iA p],Gb s,?_⟩
  cbv
  refine⟨[iA HB],Nb HA,Gb HC,?_⟩
  cbv
  refine⟨Nb HD,Mb HE,?_⟩
  refine⟨[tA (qGOcc Gw)],Gb HF,?_⟩
  cbv
  exact Rb
 cbv
 obtain⟨HG,hh⟩:=ac hh
 obtain⟨HH,HI,hh⟩:=af hh
 obtain⟨HJ,hh⟩:=ac hh
 obtain⟨HK,hh⟩:=ac hh
 obtain⟨Gx,HL,hh⟩:=af hh
 refine⟨[(5,0),(9,0),(1007,50),(1014,0)],?_⟩
 cbv
 refine⟨tA (qGOcc Gx),?_,?_⟩
 ·refine ec hC (bU [] [185] [216]) mixed (ts:=[(4,none)]) Tryz.func216 (by kernel_rfl) (by kernel_rfl) ?_
  intro S N
  cbv
  refine⟨[iA b,iA c,iA d,tA (qInt j),tA (qGOcc u),tA (qGOcc v),tA (qGOcc w),tA (qGOcc y),tA (qGOcc t),iA p],Gb s,?_⟩
  cbv
  refine⟨[iA HH],Nb HG,Gb HI,?_⟩
  cbv
  refine⟨Nb HJ,Mb HK,?_⟩
  refine⟨[tA (qGOcc Gx)],Gb HL,?_⟩
  cbv
  exact Rb
 cbv
 obtain⟨⟨⟨M,O⟩,Gg⟩,HM,hh⟩:=af hh
 try dsimp only at hh
 have fc:=kW hQ HM
 try dsimp only at fc
 refine ag hF fc ?_
 cbv
 refine⟨[iA b,iA c,iA d,tA (qInt j),tA (qGOcc u),tA (qGOcc v),tA (qGOcc w),tA (qGOcc y),tA (qGOcc t),iA p],Gb s,?_⟩
 cbv
 refine⟨⟨(⟨[(0,.mptr (0,0) 1 0 0),(1,iA p1),(2,.mptr (2,0) 1 0 0),(7,.ref (7,50) 1 0 (len (qLGOcc A))),(9,.mptr (14,0) 1 (nadd 0 (toNat z)) 0),(15,iA (cast (len (qGNode p0b)))),(16,iA z),(30,tA (qGOcc Gg)),(1000000,.mptr (0,0) 1 0 0),(1000002,.mptr (2,0) 1 0 0)],[((0,0),.box 1 [iA p0a,.ref (14,0) 1 0 (len (qGNode B)),iA p0c,iA p0d,bA D]),((2,0),.box 1 [iA p2a,iA p2b,iA p2c]),((7,50),.arr 1 1 (qLGOcc A)),((14,0),.arr 1 10 (set (qGNode B) (nadd 0 (toNat z)) [iA b,iA c,iA d,tA (qInt j),tA (qGOcc u),tA (qGOcc v),tA (qGOcc M),tA (qGOcc O),tA (qGOcc t),iA p]))]⟩:St),?_,?_⟩,trivial⟩
 ·refine aq [((0,0),(1000,0)),((2,0),(1002,0)),((7,50),(1007,50)),((14,0),(1014,0))] ?_
  cbv
  all_goals exact Zb
 cbv
 obtain⟨HO,hh⟩:=ac hh
 refine⟨⟨Ob,Ab⟩,?_⟩
 refine⟨⟨Ob,Wb HO⟩,?_⟩
 refine⟨[iA b,iA c,iA d,tA (qInt j),tA (qGOcc u),tA (qGOcc v),tA (qGOcc M),tA (qGOcc O),tA (qGOcc t),iA p],Gb2 s ((List.getElem?_eq_some_iff.1 s).1),?_⟩
 cbv
 refine⟨[iA b,iA c,iA d,tA (qInt j),tA (qGOcc u),tA (qGOcc v),tA (qGOcc M),tA (qGOcc O),tA (qGOcc t),iA p],Gb2 s ((List.getElem?_eq_some_iff.1 s).1),?_⟩
 cbv
 refine bcs (fun Fk=>?_) (fun Fk=>?_)
 replace hh:=ifT hh Fk
 try rw[Fk]
 cbv
 ·refine C (_,_,_,_) _ hh fun⟨F,G,H,T⟩ e=>?_
  refine aq [((0,0),(0,0)),((2,0),(2,0)),((7,50),(34,0)),((14,0),(14,0))] ?_
  cbv
  all_goals exact J4
 replace hh:=ifF hh Fk
 try rw[Fk]
 cbv
 refine⟨[iA b,iA c,iA d,tA (qInt j),tA (qGOcc u),tA (qGOcc v),tA (qGOcc M),tA (qGOcc O),tA (qGOcc t),iA (wrap .i64 (add p (cast (len (qGOcc Gg)))))],Gb2 s ((List.getElem?_eq_some_iff.1 s).1),?_⟩
 cbv
 ·refine C (_,_,_,_) _ hh fun⟨F,G,H,T⟩ e=>?_
  refine aq [((0,0),(0,0)),((2,0),(2,0)),((7,50),(34,0)),((14,0),(14,0))] ?_
  cbv
  all_goals exact J4
 replace hh:=ifF hh Fj
 try rw[Fj]
 cbv
 refine bcs (fun Fm=>?_) (fun Fm=>?_)
 replace hh:=ifT hh Fm
 try rw[Fm]
 cbv
 refine⟨[iA b,iA c,iA d,tA (qInt j),tA (qGOcc u),tA (qGOcc v),tA (qGOcc w),tA (qGOcc y),tA (qGOcc t),iA p],Gb s,?_⟩
 cbv
 obtain⟨HP,hh⟩:=ac hh
 obtain⟨HQ,HR,hh⟩:=af hh
 obtain⟨HS,hh⟩:=ac hh
 obtain⟨HT,hh⟩:=ac hh
 obtain⟨Gy,HU,hh⟩:=af hh
 refine⟨[(5,0),(9,0),(1007,50),(1014,0)],?_⟩
 cbv
 refine⟨tA (qGOcc Gy),?_,?_⟩
 ·refine ec hC (bU [] [185] [216]) mixed (ts:=[(4,none)]) Tryz.func216 (by kernel_rfl) (by kernel_rfl) ?_
  intro S N
  cbv
  refine⟨[iA b,iA c,iA d,tA (qInt j),tA (qGOcc u),tA (qGOcc v),tA (qGOcc w),tA (qGOcc y),tA (qGOcc t),iA p],Gb s,?_⟩
  cbv
  refine⟨[iA HQ],Nb HP,Gb HR,?_⟩
  cbv
  refine⟨Nb HS,Mb HT,?_⟩
  refine⟨[tA (qGOcc Gy)],Gb HU,?_⟩
  cbv
  exact Rb
 cbv
 obtain⟨HV,hh⟩:=ac hh
 obtain⟨HW,HX,hh⟩:=af hh
 obtain⟨HY,hh⟩:=ac hh
 obtain⟨HZ,hh⟩:=ac hh
 obtain⟨Gz,H0,hh⟩:=af hh
 refine⟨[(5,0),(9,0),(1007,50),(1014,0)],?_⟩
 cbv
 refine⟨tA (qGOcc Gz),?_,?_⟩
 ·refine ec hC (bU [] [185] [216]) mixed (ts:=[(4,none)]) Tryz.func216 (by kernel_rfl) (by kernel_rfl) ?_
  intro S N
  cbv
  refine⟨[iA b,iA c,iA d,tA (qInt j),tA (qGOcc u),tA (qGOcc v),tA (qGOcc w),tA (qGOcc y),tA (qGOcc t),iA p],Gb s,?_⟩
  cbv
  refine⟨[iA HW],Nb HV,Gb HX,?_⟩
  cbv
  refine⟨Nb HY,Mb HZ,?_⟩
  refine⟨[tA (qGOcc Gz)],Gb H0,?_⟩
  cbv
  exact Rb
 cbv
 obtain⟨H1,hh⟩:=ac hh
 obtain⟨H2,H3,hh⟩:=af hh
 obtain⟨H4,hh⟩:=ac hh
 obtain⟨H5,hh⟩:=ac hh
 obtain⟨GA,H6,hh⟩:=af hh
 refine⟨[(5,0),(9,0),(1007,50),(1014,0)],?_⟩
 cbv
 refine⟨tA (qGOcc GA),?_,?_⟩
 ·refine ec hC (bU [] [185] [216]) mixed (ts:=[(4,none)]) Tryz.func216 (by kernel_rfl) (by kernel_rfl) ?_
  intro S N
  cbv
  refine⟨[iA b,iA c,iA d,tA (qInt j),tA (qGOcc u),tA (qGOcc v),tA (qGOcc w),tA (qGOcc y),tA (qGOcc t),iA p],Gb s,?_⟩
  cbv
  refine⟨[iA H2],Nb H1,Gb H3,?_⟩
  cbv
  refine⟨Nb H4,Mb H5,?_⟩
  refine⟨[tA (qGOcc GA)],Gb H6,?_⟩
  cbv
  exact Rb
 cbv
 obtain⟨⟨⟨Q,R⟩,Gh⟩,H7,hh⟩:=af hh
 try dsimp only at hh
 have fc:=jY hQ H7
 try dsimp only at fc
 refine ag hF fc ?_
 cbv
 refine⟨[iA b,iA c,iA d,tA (qInt j),tA (qGOcc u),tA (qGOcc v),tA (qGOcc w),tA (qGOcc y),tA (qGOcc t),iA p],Gb s,?_⟩
 cbv
 refine⟨⟨(⟨[(0,.mptr (0,0) 1 0 0),(1,iA p1),(2,.mptr (2,0) 1 0 0),(7,.ref (7,50) 1 0 (len (qLGOcc A))),(9,.mptr (14,0) 1 (nadd 0 (toNat z)) 0),(15,iA (cast (len (qGNode p0b)))),(16,iA z),(30,tA (qGOcc Gh)),(1000000,.mptr (0,0) 1 0 0),(1000002,.mptr (2,0) 1 0 0)],[((0,0),.box 1 [iA p0a,.ref (14,0) 1 0 (len (qGNode B)),iA p0c,iA p0d,bA D]),((2,0),.box 1 [iA p2a,iA p2b,iA p2c]),((7,50),.arr 1 1 (qLGOcc A)),((14,0),.arr 1 10 (set (qGNode B) (nadd 0 (toNat z)) [iA b,iA c,iA d,tA (qInt j),tA (qGOcc u),tA (qGOcc v),tA (qGOcc Q),tA (qGOcc R),tA (qGOcc t),iA p]))]⟩:St),?_,?_⟩,trivial⟩
 ·refine aq [((0,0),(1000,0)),((2,0),(1002,0)),((7,50),(1007,50)),((14,0),(1014,0))] ?_
  cbv
  all_goals exact Zb
 cbv
 obtain⟨H8,hh⟩:=ac hh
 refine⟨⟨Ob,Ab⟩,?_⟩
 refine⟨⟨Ob,Wb H8⟩,?_⟩
 refine⟨[iA b,iA c,iA d,tA (qInt j),tA (qGOcc u),tA (qGOcc v),tA (qGOcc Q),tA (qGOcc R),tA (qGOcc t),iA p],Gb2 s ((List.getElem?_eq_some_iff.1 s).1),?_⟩
 cbv
 refine⟨[iA b,iA c,iA d,tA (qInt j),tA (qGOcc u),tA (qGOcc v),tA (qGOcc Q),tA (qGOcc R),tA (qGOcc t),iA p],Gb2 s ((List.getElem?_eq_some_iff.1 s).1),?_⟩
 cbv
 refine bcs (fun Fo=>?_) (fun Fo=>?_)
 replace hh:=ifT hh Fo
 try rw[Fo]
 cbv
 ·refine C (_,_,_,_) _ hh fun⟨F,G,H,T⟩ e=>?_
  refine aq [((0,0),(0,0)),((2,0),(2,0)),((7,50),(34,0)),((14,0),(14,0))] ?_
  cbv
  all_goals exact J4
 replace hh:=ifF hh Fo
 try rw[Fo]
 cbv
 refine⟨[iA b,iA c,iA d,tA (qInt j),tA (qGOcc u),tA (qGOcc v),tA (qGOcc Q),tA (qGOcc R),tA (qGOcc t),iA (wrap .i64 (add p (cast (len (qGOcc Gh)))))],Gb2 s ((List.getElem?_eq_some_iff.1 s).1),?_⟩
 cbv
 ·refine C (_,_,_,_) _ hh fun⟨F,G,H,T⟩ e=>?_
  refine aq [((0,0),(0,0)),((2,0),(2,0)),((7,50),(34,0)),((14,0),(14,0))] ?_
  cbv
  all_goals exact J4
 replace hh:=ifF hh Fm
 try rw[Fm]
 cbv
 refine⟨[iA b,iA c,iA d,tA (qInt j),tA (qGOcc u),tA (qGOcc v),tA (qGOcc w),tA (qGOcc y),tA (qGOcc t),iA p],Gb s,?_⟩
 cbv
 obtain⟨Fp,H9,hh⟩:=af hh
 refine ag hF (ak.frz (r':=tA (qGOcc Fp)) (eK hQ H9) (by cases hQ;simp)) ?_
 cbv
 refine⟨[iA b,iA c,iA d,tA (qInt j),tA (qGOcc u),tA (qGOcc v),tA (qGOcc w),tA (qGOcc y),tA (qGOcc t),iA p],Gb s,?_⟩
 cbv
 obtain⟨GB,Ia,hh⟩:=af hh
 refine ag hF (ak.frz (r':=tA (qGOcc GB)) (gI hQ (g1:=fun y0=>dP.f y0 p1) (fun h=>mi hQ h) Ia) (by cases hQ;simp)) ?_
 cbv
 refine⟨[iA b,iA c,iA d,tA (qInt j),tA (qGOcc u),tA (qGOcc v),tA (qGOcc w),tA (qGOcc y),tA (qGOcc t),iA p],Gb s,?_⟩
 cbv
 obtain⟨Ib,hh⟩:=ac hh
 obtain⟨Ic,Id,hh⟩:=af hh
 obtain⟨Ie,hh⟩:=ac hh
 obtain⟨If,hh⟩:=ac hh
 obtain⟨Fq,Ig,hh⟩:=af hh
 refine⟨[(5,0),(9,0),(1007,50),(1014,0)],?_⟩
 cbv
 refine⟨tA (qGOcc Fq),?_,?_⟩
 ·refine ec hC (bU [] [185] [216]) mixed (ts:=[(4,none)]) Tryz.func216 (by kernel_rfl) (by kernel_rfl) ?_
  intro S N
  cbv
  refine⟨[iA b,iA c,iA d,tA (qInt j),tA (qGOcc u),tA (qGOcc v),tA (qGOcc w),tA (qGOcc y),tA (qGOcc GB),iA p],Gb2 s ((List.getElem?_eq_some_iff.1 s).1),?_⟩
  cbv
  refine⟨[iA Ic],Nb Ib,Gb Id,?_⟩
  cbv
  refine⟨Nb Ie,Mb If,?_⟩
  refine⟨[tA (qGOcc Fq)],Gb Ig,?_⟩
  cbv
  exact Rb
 cbv
 obtain⟨o2,Iq,Ir⟩:=af hh
 refine ay hC (bU [] [185] [216]) mixed (fun n (i:(List GNode)×Int)=>av.l2 k Fq z n i.1 i.2)
  (fun⟨Gk,GC⟩=>(⟨[(5,.mptr (5,0) 1 0 0),(12,tA (qGOcc Fp)),(36,tA (qGOcc Fq)),(37,iA (cast (len (qGOcc Fq)))),(38,iA GC),(2000000,.mptr (1000,0) 1 0 0),(2000001,iA p1),(2000002,.mptr (1002,0) 1 0 0),(2000007,.ref (1007,50) 1 0 (len (qLGOcc A))),(2000009,.mptr (1014,0) 1 (nadd 0 (toNat z)) 0),(2000015,iA (cast (len (qGNode p0b)))),(2000016,iA z),(3000000,.mptr (1000,0) 1 0 0),(3000002,.mptr (1002,0) 1 0 0)],[((5,0),.box 1 [.mptr (1014,0) 1 (nadd 0 (toNat z)) 0]),((1000,0),.box 1 [iA p0a,.ref (1014,0) 1 0 (len (qGNode Gk)),iA p0c,iA p0d,bA D]),((1002,0),.box 1 [iA p2a,iA p2b,iA p2c]),((1007,50),.arr 1 1 (qLGOcc A)),((1014,0),.arr 1 10 (qGNode Gk))]⟩:St))
  (fun(Fr:List GNode)=>(⟨[(12,tA (qGOcc Fp)),(2000000,.mptr (1000,0) 1 0 0),(2000001,iA p1),(2000002,.mptr (1002,0) 1 0 0),(2000007,.ref (1007,50) 1 0 (len (qLGOcc A))),(2000009,.mptr (1014,0) 1 (nadd 0 (toNat z)) 0),(2000015,iA (cast (len (qGNode p0b)))),(2000016,iA z),(3000000,.mptr (1000,0) 1 0 0),(3000002,.mptr (1002,0) 1 0 0)],[((1000,0),.box 1 [iA p0a,.ref (1014,0) 1 0 (len (qGNode Fr)),iA p0c,iA p0d,bA D]),((1002,0),.box 1 [iA p2a,iA p2b,iA p2c]),((1007,50),.arr 1 1 (qLGOcc A)),((1014,0),.arr 1 10 (qGNode Fr))]⟩:St)) (fun x=>x) (.exit 1)
  (i0:=(_,_)) Iq (fun _=>rfl) ?_ ?_ ?_
 ·rintro⟨F,G⟩ e
  refine ai ?_
  cbv
  all_goals exact J2
 rintro Fr hx
 subst o2
 have hh:=Ir
 cbv
 refine⟨⟨(⟨[(0,.mptr (0,0) 1 0 0),(1,iA p1),(2,.mptr (2,0) 1 0 0),(7,.ref (7,50) 1 0 (len (qLGOcc A))),(9,.mptr (14,0) 1 (nadd 0 (toNat z)) 0),(15,iA (cast (len (qGNode p0b)))),(16,iA z),(30,tA (qGOcc Fp)),(1000000,.mptr (0,0) 1 0 0),(1000002,.mptr (2,0) 1 0 0)],[((0,0),.box 1 [iA p0a,.ref (14,0) 1 0 (len (qGNode Fr)),iA p0c,iA p0d,bA D]),((2,0),.box 1 [iA p2a,iA p2b,iA p2c]),((7,50),.arr 1 1 (qLGOcc A)),((14,0),.arr 1 10 (qGNode Fr))]⟩:St),?_,?_⟩,trivial⟩
 ·refine aq [((0,0),(1000,0)),((2,0),(1002,0)),((7,50),(1007,50)),((14,0),(1014,0))] ?_
  cbv
  all_goals exact Zb
 cbv
 obtain⟨Ih,hh⟩:=ac hh
 refine⟨⟨Ob,Ab⟩,?_⟩
 refine⟨⟨Ob,Wb Ih⟩,?_⟩
 obtain⟨⟨Fz,FA,FB,FE,⟨FH,FI⟩,⟨FJ,FM⟩,FN,FR⟩,FT,hh⟩:=af hh
 try dsimp only at hh
 refine⟨[iA Fz,iA FA,iA FB,tA (qInt FE),tA (qGOcc FH),tA (qGOcc FI),tA (qGOcc FJ),tA (qGOcc FM),tA (qGOcc FN),iA FR],Gb FT,?_⟩
 cbv
 refine⟨[iA Fz,iA FA,iA FB,tA (qInt FE),tA (qGOcc FH),tA (qGOcc FI),tA (qGOcc FJ),tA (qGOcc FM),tA (qGOcc FN),iA FR],Gb FT,?_⟩
 cbv
 refine bcs (fun Fu=>?_) (fun Fu=>?_)
 replace hh:=ifT hh Fu
 try rw[Fu]
 cbv
 ·refine C (_,_,_,_) _ hh fun⟨F,G,H,T⟩ e=>?_
  refine aq [((0,0),(0,0)),((2,0),(2,0)),((7,50),(34,0)),((14,0),(14,0))] ?_
  cbv
  all_goals exact J4
 replace hh:=ifF hh Fu
 try rw[Fu]
 cbv
 refine⟨[iA Fz,iA FA,iA FB,tA (qInt FE),tA (qGOcc FH),tA (qGOcc FI),tA (qGOcc FJ),tA (qGOcc FM),tA (qGOcc FN),iA (wrap .i64 (add FR (cast (len (qGOcc Fp)))))],Gb2 FT ((List.getElem?_eq_some_iff.1 FT).1),?_⟩
 cbv
 ·refine C (_,_,_,_) _ hh fun⟨F,G,H,T⟩ e=>?_
  refine aq [((0,0),(0,0)),((2,0),(2,0)),((7,50),(34,0)),((14,0),(14,0))] ?_
  cbv
  all_goals exact J4
 rintro n ⟨Gk,GC⟩ N2 D2 hh Is It IB
 try dsimp only at hh
 unfold av.l2 at hh
 cbv
 refine bcs (fun Fx=>?_) (fun Fx=>?_)
 replace hh:=ifT hh Fx
 try rw[Fx]
 cbv
 obtain⟨Ii,hh⟩:=ac hh
 obtain⟨⟨GD,GE,GF⟩,Ij,hh⟩:=af hh
 try dsimp only at hh
 refine⟨[iA GD,iA GE,tA (qInt GF)],Nb Ii,Gb Ij,?_⟩
 cbv
 obtain⟨⟨FW,F4,F5,F6,⟨F7,F8⟩,⟨F9,Ga⟩,Gc,Gd⟩,Gl,hh⟩:=af hh
 try dsimp only at hh
 refine⟨[iA FW,iA F4,iA F5,tA (qInt F6),tA (qGOcc F7),tA (qGOcc F8),tA (qGOcc F9),tA (qGOcc Ga),tA (qGOcc Gc),iA Gd],Gb Gl,?_⟩
 cbv
 refine⟨[iA FW,iA F4,iA F5,tA (qInt F6),tA (qGOcc F7),tA (qGOcc F8),tA (qGOcc F9),tA (qGOcc Ga),tA (qGOcc Gc),iA Gd],Gb Gl,?_⟩
 cbv
 obtain⟨⟨Iu,Iv,Iw⟩,Ik,hh⟩:=af hh
 try dsimp only at hh
 have fc:=kM hQ Ik
 try dsimp only at fc
 refine ag hF fc ?_
 cbv
 obtain⟨Iz,Il,hh⟩:=af hh
 refine⟨Ob,?_⟩
 refine ag hF (jA hQ Il) ?_
 cbv
 refine⟨[iA FW,iA F4,iA F5,tA (qInt F6),tA (qGOcc F7),tA (qGOcc F8),tA (qGOcc F9),tA (qGOcc Ga),tA (qGOcc Gc),iA Gd],Gb Gl,?_⟩
 cbv
 ·refine Is (_,_) _ hh fun⟨F,G⟩ e=>?_
  refine ai ?_
  cbv
  all_goals exact J2
 replace hh:=ifF hh Fx
 try rw[Fx]
 cbv
 ·refine It _ _ hh fun F e=>?_
  refine ai ?_
  cbv
  all_goals exact J1
 replace hh:=ifF hh U
 try rw[U]
 cbv
 ·refine Ip (_,_,_) _ hh fun⟨F,G,H⟩ e=>?_
  refine ai ?_
  cbv
  all_goals exact J3

theorem si {k:Nat} {p0:GGraph} {p1:GEv} {r:(List GOcc)×GGraph} (hh:cr.f k p0 p1=some r):ak P 62 [.obox [iA p0.Mode,oA 10 (qGNode p0.Nodes),iA p0.Seen,iA p0.Now,bA p0.Full],.agg [iA p1.Sym,iA p1.At,iA p1.Val]] [.obox [iA r.2.Mode,oA 10 (qGNode r.2.Nodes),iA r.2.Seen,iA r.2.Now,bA r.2.Full],hA] (oA 3 (qGOcc r.1)):=by
 obtain⟨p0a,p0b,p0c,p0d,p0e⟩:=p0
 obtain⟨p1a,p1b,p1c⟩:=p1
 unfold cr.f at hh
 refine go (ts:=[(4,none)]) (rm:=[.own]) (pm:=[.own,.skip]) Tryz.func62 ?_
 unhygienic intros
 cbv
 obtain⟨o1,S,T⟩:=af hh
 refine ay hC eok mixed (fun n (i:Int×(List GNode)×Int×Int×Bool×(List GOcc))=>cr.l0 k (⟨p1a,p1b,p1c⟩:GEv) n i.1 i.2.1 i.2.2.1 i.2.2.2.1 i.2.2.2.2.1 i.2.2.2.2.2)
  (fun⟨B,t,C,D,o,u⟩=>(⟨[(0,.mptr (0,0) 1 0 0),(3,.mptr (3,0) 1 0 0),(5,.ref (5,50) 1 0 (len (qGOcc u))),(1000000,.mptr (0,0) 1 0 0)],[((0,0),.box 1 [iA B,.ref (900,0) 1 0 (len (qGNode t)),iA C,iA D,bA o]),((3,0),.box 1 [iA p1a,iA p1b,iA p1c]),((5,50),.arr 1 3 (qGOcc u)),((900,0),.arr 1 10 (qGNode t))]⟩:St))
  (fun(⟨F,v,G,H,p,w⟩:Int×(List GNode)×Int×Int×Bool×(List GOcc))=>(⟨[(0,.mptr (0,0) 1 0 0),(3,.mptr (3,0) 1 0 0),(5,.ref (5,50) 1 0 (len (qGOcc w))),(1000000,.mptr (0,0) 1 0 0)],[((0,0),.box 1 [iA F,.ref (900,0) 1 0 (len (qGNode v)),iA G,iA H,bA p]),((3,0),.box 1 [iA p1a,iA p1b,iA p1c]),((5,50),.arr 1 3 (qGOcc w)),((900,0),.arr 1 10 (qGNode v))]⟩:St)) (fun x=>x) (.exit 0)
  (i0:=(_,_,_,_,_,_)) S (fun _=>rfl) ?_ ?_ ?_
 ·rintro⟨L,M,N,O,Q,R⟩ e
  refine lB hC (0,0) 900 ?_
  cbv
  refine aq [((0,0),(0,0)),((3,0),(3,0)),((900,0),(900,0))] ?_
  cbv
  all_goals exact J6
 rintro⟨F,v,G,H,p,w⟩ hx
 subst o1
 have hh:=T
 cbv
 replace hh:=aG hh
 rcases hh with⟨y,hh⟩|⟨y,hh⟩
 have b:p=true:=Tb y
 have g:=b;cbv at g;try rw[b]
 try rw[g]
 cbv
 refine⟨3,?_⟩
 cbv
 refine⟨10,?_⟩
 cbv
 exact Eb
 have b:p=false:=Fb y
 have g:=b;cbv at g;try rw[b]
 try rw[g]
 cbv
 obtain⟨⟨FB,⟨U,V,W,X,Y⟩,⟨Z,ek,EJ⟩⟩,E2,hh⟩:=af hh
 try dsimp only at hh
 have fc:=pU hQ E2
 try dsimp only at fc
 refine ag hF fc ?_
 cbv
 obtain⟨I,hh⟩:=ac hh
 try dsimp only at I
 refine⟨⟨Ab,Ab⟩,?_⟩
 refine⟨⟨Ob,Wb I⟩,?_⟩
 refine bcs (fun c=>?_) (fun c=>?_)
 replace hh:=ifT hh c
 try rw[c]
 cbv
 refine⟨3,?_⟩
 cbv
 refine⟨10,?_⟩
 cbv
 exact Eb
 replace hh:=ifF hh c
 try rw[c]
 cbv
 exact Eb
 rintro n ⟨B,t,C,D,o,u⟩ N1 D1 hh E3 J FJ
 try dsimp only at hh
 unfold cr.l0 at hh
 cbv
 replace hh:=aG hh
 rcases hh with⟨z,hh⟩|⟨z,hh⟩
 have d:o=true:=Tb z
 have g:=d;cbv at g;try rw[d]
 try rw[g]
 cbv
 ·refine J (_,_,_,_,_,_) _ hh fun⟨L,M,N,O,Q,R⟩ e=>?_
  refine ai ?_
  cbv
  all_goals exact J6
 have d:o=false:=Fb z
 have g:=d;cbv at g;try rw[d]
 try rw[g]
 cbv
 obtain⟨⟨FE,s,⟨Ff,Fj,Fk,Fm,Fo⟩⟩,Fp,hh⟩:=af hh
 try dsimp only at hh
 have fc:=sZ hQ Fp
 try dsimp only at fc
 refine ag hF fc ?_
 cbv
 replace hh:=aG hh
 rcases hh with⟨A,hh⟩|⟨A,hh⟩
 have j:s=true:=Tb A
 have g:=j;cbv at g;try rw[j]
 try rw[g]
 cbv
 obtain⟨⟨FH,⟨Fq,Fr,Fu,Fx,Fz⟩⟩,FA,hh⟩:=af hh
 try dsimp only at hh
 have fc:=nO hQ FA
 try dsimp only at fc
 refine ag hF fc ?_
 cbv
 obtain⟨K,hh⟩:=ac hh
 try dsimp only at K
 refine⟨⟨Ab,Ab⟩,?_⟩
 refine⟨⟨Ob,Wb K⟩,?_⟩
 ·refine E3 (_,_,_,_,_,_) _ hh fun⟨L,M,N,O,Q,R⟩ e=>?_
  refine lB hC (0,0) 900 ?_
  cbv
  refine aq [((0,0),(0,0)),((3,0),(3,0)),((5,50),(26,0)),((900,0),(900,0))] ?_
  cbv
  all_goals exact J6
 have j:s=false:=Fb A
 have g:=j;cbv at g;try rw[j]
 try rw[g]
 cbv
 ·refine J (_,_,_,_,_,_) _ hh fun⟨L,M,N,O,Q,R⟩ e=>?_
  refine lB hC (0,0) 900 ?_
  cbv
  refine ai ?_
  cbv
  all_goals exact J6

theorem nw {k:Nat} {p0:List GOcc} {r:List GOcc} (hh:cu.f k p0=some r):ak P 63 [tA (qGOcc p0)] [hA] (oA 3 (qGOccO r)):=by
 unfold cu.f at hh
 refine go (ts:=[(2,none)]) (rm:=[.own]) (pm:=[.skip]) Tryz.func63 ?_
 unhygienic intros
 cbv
 obtain⟨D,t,u⟩:=af hh
 refine ay hC eok mixed (fun n (i:(List GOcc)×Int)=>cu.l0 k p0 n i.1 i.2)
  (fun⟨c,j⟩=>(⟨[(3,.ref (3,50) 1 0 (len (qGOccO c))),(6,tA (qGOcc p0)),(7,iA (cast (len (qGOcc p0)))),(8,iA j)],[((3,50),.arr 1 3 (qGOccO c))]⟩:St))
  (fun(d:List GOcc)=>(⟨[(3,.ref (3,50) 1 0 (len (qGOccO d)))],[((3,50),.arr 1 3 (qGOccO d))]⟩:St)) (fun x=>x) (.exit 0)
  (i0:=(_,_)) t (fun _=>rfl) ?_ ?_ ?_
 ·rintro⟨v,F⟩ e
  refine aq [] ?_
  cbv
  all_goals exact J2
 rintro d hx
 subst D
 have hh:=u
 cbv
 exact Eb
 rintro n ⟨c,j⟩ K L hh w y J
 try dsimp only at hh
 unfold cu.l0 at hh
 cbv
 refine bcs (fun b=>?_) (fun b=>?_)
 replace hh:=ifT hh b
 try rw[b]
 cbv
 obtain⟨z,hh⟩:=ac hh
 obtain⟨⟨o,p,s⟩,A,hh⟩:=af hh
 try dsimp only at hh
 refine⟨[iA o,iA p,tA (qInt s)],Nb z,Gb A,?_⟩
 cbv
 obtain⟨⟨G,H,I⟩,B,hh⟩:=af hh
 try dsimp only at hh
 have fc:=np hQ B
 try dsimp only at fc
 refine ag hF fc ?_
 cbv
 obtain⟨C,hh⟩:=ac hh
 refine⟨⟨Ob,Ab⟩,?_⟩
 refine⟨⟨Ob,Wb C⟩,?_⟩
 ·refine w (_,_) _ hh fun⟨v,F⟩ e=>?_
  refine aq [((3,50),(16,0))] ?_
  cbv
  all_goals exact J2
 replace hh:=ifF hh b
 try rw[b]
 cbv
 ·refine y _ _ hh fun v e=>?_
  refine ai ?_
  cbv
  all_goals exact J1

theorem uS {k:Nat} {p0:GEx} {p1:Int} {p2:List GEv} {r:(List GOcc)×Bool} (hh:cH.f k p0 p1 p2=some r):ak P 20 [.agg [iA p0.Kind,iA p0.Sym,iA p0.N,tA (qGEx p0.Kids)],iA p1,tA (qGEv p2)] [hA,hA,hA] (.tup [oA 3 (qGOccO r.1),bA r.2]):=by
 obtain⟨p0a,p0b,p0c,p0d⟩:=p0
 unfold cH.f at hh
 refine go (ts:=[(6,none),(7,none)]) (rm:=[.own,.own]) (pm:=[.skip,.skip,.skip]) Tryz.func20 ?_
 unhygienic intros
 cbv
 obtain⟨J,h1,hh⟩:=af hh
 refine ag hF (oj hQ h1) ?_
 cbv
 replace hh:=aG hh
 rcases hh with⟨D,hh⟩|⟨D,hh⟩
 have o:J=true:=Tb D
 have g:=o;cbv at g;try rw[o]
 try rw[g]
 cbv
 obtain⟨K,h6,hh⟩:=af hh
 refine ag hF (ix hQ h6) ?_
 cbv
 replace hh:=aG hh
 rcases hh with⟨F,hh⟩|⟨F,hh⟩
 have b:K=true:=Tb F
 have g:=b;cbv at g;try rw[b]
 try rw[g]
 cbv
 obtain⟨t,L,hh⟩:=af hh
 refine ag hF (qU hQ L) ?_
 cbv
 replace hh:=aG hh
 rcases hh with⟨p,hh⟩|⟨p,hh⟩
 have c:t=true:=Tb p
 have g:=c;cbv at g;try rw[c]
 try rw[g]
 cbv
 obtain⟨⟨Fm,Fo,Fp,Fq,Fr⟩,M,hh⟩:=af hh
 try dsimp only at hh
 have fc:=vg hQ M
 try dsimp only at fc
 refine ag hF fc ?_
 cbv
 obtain⟨o1,O,u⟩:=af hh
 refine ay hC eok mixed (fun n (i:Int×(List GNode)×Int×Int×Bool×(List GOcc)×Int)=>cH.l0 k p2 n i.1 i.2.1 i.2.2.1 i.2.2.2.1 i.2.2.2.2.1 i.2.2.2.2.2.1 i.2.2.2.2.2.2)
  (fun⟨v,s,w,y,z,A,B⟩=>(⟨[(8,.mptr (8,0) 1 0 0),(9,tA (qGOcc A)),(28,tA (qGEv p2)),(29,iA (cast (len (qGEv p2)))),(30,iA B)],[((8,0),.box 1 [iA v,.ref (27,0) 1 0 (len (qGNode s)),iA w,iA y,bA z]),((27,0),.arr 1 10 (qGNode s))]⟩:St))
  (fun(C:List GOcc)=>(⟨[(9,tA (qGOcc C))],[]⟩:St)) .ok (.exit 0)
  (i0:=(_,_,_,_,_,_,_)) O (fun _=>rfl) ?_ ?_ ?_
 ·rintro⟨Q,t1,t2,t3,t4,t5,t6⟩ e
  refine ai ?_
  cbv
  all_goals exact J7
 rintro C hx
 subst o1
 have hh:=u
 cbv
 obtain⟨FI,R,hh⟩:=af hh
 refine ag hF (nw hQ R) ?_
 cbv
 exact Eb
 rintro n ⟨v,s,w,y,z,A,B⟩ N1 D1 hh S T U
 try dsimp only at hh
 unfold cH.l0 at hh
 cbv
 refine bcs (fun d=>?_) (fun d=>?_)
 replace hh:=ifT hh d
 try rw[d]
 cbv
 obtain⟨V,hh⟩:=ac hh
 obtain⟨⟨G,H,I⟩,W,hh⟩:=af hh
 try dsimp only at hh
 refine⟨[iA G,iA H,iA I],Nb V,Gb W,?_⟩
 cbv
 obtain⟨⟨Ff,⟨X,Y,Z,ek,EJ⟩⟩,E2,hh⟩:=af hh
 try dsimp only at hh
 have fc:=si hQ E2
 try dsimp only at fc
 refine ag hF fc ?_
 cbv
 obtain⟨FJ,E3,hh⟩:=af hh
 refine⟨Ob,?_⟩
 refine ag hF (bL hQ E3) ?_
 cbv
 refine bcs (fun j=>?_) (fun j=>?_)
 replace hh:=ifT hh j
 try rw[j]
 cbv
 cases hh
 have hh:some _=some _:=u
 refine U _ _ ?_
 cbv
 refine⟨3,?_⟩
 cbv
 exact Eb
 replace hh:=ifF hh j
 try rw[j]
 cbv
 ·refine S (_,_,_,_,_,_,_) _ hh fun⟨Q,t1,t2,t3,t4,t5,t6⟩ e=>?_
  refine lB hC (8,0) 900 ?_
  cbv
  refine aq [((8,0),(8,0)),((27,0),(900,0))] ?_
  cbv
  all_goals exact J7
 replace hh:=ifF hh d
 try rw[d]
 cbv
 ·refine T _ _ hh fun Q e=>?_
  refine ai ?_
  cbv
  all_goals exact J1
 have c:t=false:=Fb p
 have g:=c;cbv at g;try rw[c]
 try rw[g]
 cbv
 refine⟨3,?_⟩
 cbv
 exact Eb
 have b:K=false:=Fb F
 have g:=b;cbv at g;try rw[b]
 try rw[g]
 cbv
 refine⟨3,?_⟩
 cbv
 exact Eb
 have o:J=false:=Fb D
 have g:=o;cbv at g;try rw[o]
 try rw[g]
 cbv
 refine⟨3,?_⟩
 cbv
 exact Eb
theorem pc {k:Nat} {p0:GEx} {p1:Int} {p2:List GEv} {r:(List GOcc)×Bool} (hh:cH.f k p0 p1 p2=some r):ak P 20 [.agg [iA p0.Kind,iA p0.Sym,iA p0.N,oA 4 (qGExO p0.Kids)],iA p1,oA 3 (qGEv p2)] [.agg [iA p0.Kind,iA p0.Sym,iA p0.N,oA 4 (qGExO p0.Kids)],hA,oA 3 (qGEv p2)] (.tup [oA 3 (qGOccO r.1),bA r.2]):=by
  cases hQ;exact(uS .mk hh).lend (by simp[Vm.ownd,gm, -jG,kG]) (.lend (by simp) (.same rfl (.lend (congrArg A.tree (pX _).symm) .nil)))

theorem zf {k:Nat} {p0:GOcc} {r:Bool} (hh:dW.f k p0=some r):ak P 94 [.agg [iA p0.From,iA p0.To,tA (qInt p0.Ids)]] [hA] (bA r):=by
 obtain⟨p0a,p0b,p0c⟩:=p0
 unfold dW.f at hh
 refine go (ts:=[(2,none)]) (rm:=[.own]) (pm:=[.skip]) Tryz.func94 ?_
 unhygienic intros
 cbv
 obtain⟨H,w,s⟩:=af hh
 refine ay hC eok mixed (fun n (i:Int×Int)=>dW.l0 k (⟨p0a,p0b,p0c⟩:GOcc) n i.1 i.2)
  (fun⟨t,u⟩=>(⟨[(1,.mptr (1,0) 1 0 0),(3,iA t),(7,tA (qInt p0c)),(8,iA (cast (len (qInt p0c)))),(9,iA u)],[((1,0),.box 1 [iA p0a,iA p0b,tA (qInt p0c)])]⟩:St))
  (fun(_:Unit)=>(⟨[(1,.mptr (1,0) 1 0 0)],[((1,0),.box 1 [iA p0a,iA p0b,tA (qInt p0c)])]⟩:St)) .ok (.exit 0)
  (i0:=(_,_)) w (fun _=>rfl) ?_ ?_ ?_
 ·rintro⟨I,J⟩ e
  refine ai ?_
  cbv
  all_goals exact J2
 rintro _ hx
 subst H
 have hh:=s
 cbv
 replace hh:=aG hh
 rcases hh with⟨o,hh⟩|⟨o,hh⟩
 have b:(lt p0a 1)=true:=Tb o
 have g:=b;cbv at g;try rw[b]
 try rw[g]
 cbv
 exact Eb
 have b:(lt p0a 1)=false:=Fb o
 have g:=b;cbv at g;try rw[b]
 try rw[g]
 cbv
 obtain⟨K,y,hh⟩:=af hh
 refine ag hF (fR hQ y) ?_
 cbv
 refine bcs (fun c=>?_) (fun c=>?_)
 replace hh:=ifT hh c
 try rw[c]
 cbv
 exact Eb
 replace hh:=ifF hh c
 try rw[c]
 cbv
 exact Eb
 rintro n ⟨t,u⟩ L M hh z A B
 try dsimp only at hh
 unfold dW.l0 at hh
 cbv
 refine bcs (fun d=>?_) (fun d=>?_)
 replace hh:=ifT hh d
 try rw[d]
 cbv
 obtain⟨C,hh⟩:=ac hh
 obtain⟨D,F,hh⟩:=af hh
 refine⟨[iA D],Nb C,Gb F,?_⟩
 cbv
 obtain⟨v,G,hh⟩:=af hh
 refine ag hF (fR hQ G) ?_
 cbv
 replace hh:=aG hh
 rcases hh with⟨p,hh⟩|⟨p,hh⟩
 have j:v=true:=Tb p
 have g:=j;cbv at g;try rw[j]
 try rw[g]
 cbv
 ·refine z (_,_) _ hh fun⟨I,J⟩ e=>?_
  refine ai ?_
  cbv
  all_goals exact J2
 have j:v=false:=Fb p
 have g:=j;cbv at g;try rw[j]
 try rw[g]
 cbv
 cases hh
 have hh:some _=some _:=s
 refine B _ _ ?_
 cbv
 exact Eb
 replace hh:=ifF hh d
 try rw[d]
 cbv
 ·refine A () _ hh fun _ e=>?_
  refine ai ?_
  cbv
  all_goals exact J0

theorem vX {k:Nat} {p0:GOcc} {p1:GOcc} {r:Bool} (hh:iU.f k p0 p1=some r):ak P 46 [.agg [iA p0.From,iA p0.To,tA (qInt p0.Ids)],.agg [iA p1.From,iA p1.To,tA (qInt p1.Ids)]] [hA,hA] (bA r):=by
 obtain⟨p0a,p0b,p0c⟩:=p0
 obtain⟨p1a,p1b,p1c⟩:=p1
 unfold iU.f at hh
 refine go (ts:=[(4,none)]) (rm:=[.own]) (pm:=[.skip,.skip]) Tryz.func46 ?_
 unhygienic intros
 cbv
 obtain⟨c,b,hh⟩:=af hh
 refine ag hF (ju hQ b) ?_
 cbv
 exact Eb

theorem cZ {k:Nat} {p0:List GOcc} {r:Bool} (hh:bm.f k p0=some r):ak P 194 [tA (qGOcc p0)] [hA] (bA r):=by
 unfold bm.f at hh
 refine go (ts:=[(2,none)]) (rm:=[.own]) (pm:=[.skip]) Tryz.func194 ?_
 unhygienic intros
 cbv
 obtain⟨Q,G,o⟩:=af hh
 refine ay hC eok mixed (bm.l0 k p0)
  (fun t=>(⟨[(0,tA (qGOcc p0)),(5,tA (qGOcc p0)),(6,iA (cast (len (qGOcc p0)))),(7,iA t)],[]⟩:St))
  (fun(_:Unit)=>(⟨[(0,tA (qGOcc p0))],[]⟩:St)) .ok (.exit 0)
  (i0:=_) G (fun _=>rfl) ?_ ?_ ?_
 ·rintro H e
  refine ai ?_
  cbv
  all_goals exact J1
 rintro _ hx
 subst Q
 have hh:=o
 cbv
 exact Eb
 rintro n t R S hh u I v
 unfold bm.l0 at hh
 cbv
 refine bcs (fun b=>?_) (fun b=>?_)
 replace hh:=ifT hh b
 try rw[b]
 cbv
 obtain⟨J,hh⟩:=ac hh
 obtain⟨⟨z,A,B⟩,K,hh⟩:=af hh
 try dsimp only at hh
 refine⟨[iA z,iA A,tA (qInt B)],Nb J,Gb K,?_⟩
 cbv
 obtain⟨w,L,hh⟩:=af hh
 refine ag hF (zf hQ L) ?_
 cbv
 replace hh:=aG hh
 rcases hh with⟨p,hh⟩|⟨p,hh⟩
 have c:w=true:=Tb p
 have g:=c;cbv at g;try rw[c]
 try rw[g]
 cbv
 refine bcs (fun d=>?_) (fun d=>?_)
 replace hh:=ifT hh d
 try rw[d]
 cbv
 obtain⟨M,hh⟩:=ac hh
 obtain⟨⟨C,D,F⟩,N,hh⟩:=af hh
 try dsimp only at hh
 refine⟨[iA C,iA D,tA (qInt F)],Nb M,Gb N,?_⟩
 cbv
 obtain⟨y,O,hh⟩:=af hh
 refine ag hF (vX hQ O) ?_
 cbv
 replace hh:=aG hh
 rcases hh with⟨s,hh⟩|⟨s,hh⟩
 have j:y=true:=Tb s
 have g:=j;cbv at g;try rw[j]
 try rw[g]
 cbv
 ·refine u _ _ hh fun H e=>?_
  refine ai ?_
  cbv
  all_goals exact J1
 have j:y=false:=Fb s
 have g:=j;cbv at g;try rw[j]
 try rw[g]
 cbv
 cases hh
 have hh:some _=some _:=o
 refine v _ _ ?_
 cbv
 exact Eb
 replace hh:=ifF hh d
 try rw[d]
 cbv
 ·refine u _ _ hh fun H e=>?_
  refine ai ?_
  cbv
  all_goals exact J1
 have c:w=false:=Fb p
 have g:=c;cbv at g;try rw[c]
 try rw[g]
 cbv
 cases hh
 have hh:some _=some _:=o
 refine v _ _ ?_
 cbv
 exact Eb
 replace hh:=ifF hh b
 try rw[b]
 cbv
 ·refine I () _ hh fun _ e=>?_
  refine ai ?_
  cbv
  all_goals exact J0

theorem kX {k:Nat} {p0:List GOcc} {r:(List GOcc)×Bool} (hh:j4.f k p0=some r):ak P 195 [tA (qGOcc p0)] [hA] (.tup [oA 3 (qGOccO r.1),bA r.2]):=by
 unfold j4.f at hh
 refine go (ts:=[(2,none),(3,none)]) (rm:=[.own,.own]) (pm:=[.skip]) Tryz.func195 ?_
 unhygienic intros
 cbv
 refine bcs (fun b=>?_) (fun b=>?_)
 replace hh:=ifT hh b
 try rw[b]
 cbv
 refine⟨3,?_⟩
 cbv
 exact Eb
 replace hh:=ifF hh b
 try rw[b]
 cbv
 obtain⟨d,c,hh⟩:=af hh
 refine ag hF (nw hQ c) ?_
 cbv
 exact Eb

theorem Ad {k:Nat} {p0:List GOcc} {p1:List GOcc} {r:(List GOcc)×Bool} (hh:lW.f k p0 p1=some r):ak P 152 [tA (qGOcc p0),tA (qGOcc p1)] [hA,hA] (.tup [oA 3 (qGOccO r.1),bA r.2]):=by
 unfold lW.f at hh
 refine go (ts:=[(4,none),(5,none)]) (rm:=[.own,.own]) (pm:=[.skip,.skip]) Tryz.func152 ?_
 unhygienic intros
 cbv
 obtain⟨o,w,hh⟩:=af hh
 refine ag hF (cZ hQ w) ?_
 cbv
 replace hh:=aG hh
 rcases hh with⟨d,hh⟩|⟨d,hh⟩
 have c:o=true:=Tb d
 have g:=c;cbv at g;try rw[c]
 try rw[g]
 cbv
 obtain⟨p,y,hh⟩:=af hh
 refine ag hF (cZ hQ y) ?_
 cbv
 replace hh:=aG hh
 rcases hh with⟨j,hh⟩|⟨j,hh⟩
 have b:p=true:=Tb j
 have g:=b;cbv at g;try rw[b]
 try rw[g]
 cbv
 obtain⟨z,s,hh⟩:=af hh
 refine ag hF (bL hQ s) ?_
 cbv
 obtain⟨⟨u,v⟩,t,hh⟩:=af hh
 try dsimp only at hh
 have fc:=kX hQ t
 try dsimp only at fc
 refine ag hF fc ?_
 cbv
 exact Eb
 have b:p=false:=Fb j
 have g:=b;cbv at g;try rw[b]
 try rw[g]
 cbv
 refine⟨3,?_⟩
 cbv
 exact Eb
 have c:o=false:=Fb d
 have g:=c;cbv at g;try rw[c]
 try rw[g]
 cbv
 refine⟨3,?_⟩
 cbv
 exact Eb

theorem w8 {k:Nat} {p0:aB} {r:Bool} (hh:lH.f k p0=some r):ak P 227 [.agg [tA (qGOcc p0.Left),tA (qGOcc p0.Right)]] [hA] (bA r):=by
 obtain⟨p0a,p0b⟩:=p0
 unfold lH.f at hh
 refine go (ts:=[(2,none)]) (rm:=[.own]) (pm:=[.skip]) Tryz.func227 ?_
 unhygienic intros
 cbv
 obtain⟨j,c,hh⟩:=af hh
 refine ag hF (cZ hQ c) ?_
 cbv
 refine bcs (fun b=>?_) (fun b=>?_)
 replace hh:=ifT hh b
 try rw[b]
 cbv
 obtain⟨o,d,hh⟩:=af hh
 refine ag hF (cZ hQ d) ?_
 cbv
 exact Eb
 replace hh:=ifF hh b
 try rw[b]
 cbv
 exact Eb

end Go.Proofs.YtlbnmldopjadoaaGreat
