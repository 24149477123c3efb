/- The functions of this program do what the plain ones do. -/
import Derived.Test.YtlbnmldopjadoaaGreatC6
namespace Go.Proofs.YtlbnmldopjadoaaGreat
open Go Go.Vm
set_option linter.unusedVariables false
set_option maxHeartbeats 4000000
set_option maxRecDepth 4000
variable {qIu8:List Int→Vm.Rows} {qInt:List Int→Vm.Rows} {qGExO:List GEx→Vm.Rows} {qGEx:List GEx→Vm.Rows} {qGEv:List GEv→Vm.Rows} {qGOcc:List GOcc→Vm.Rows} {qGNode:List GNode→Vm.Rows} {qLGOcc:List (List GOcc)→Vm.Rows} {qLInt:List (List Int)→Vm.Rows} {qGOccO:List GOcc→Vm.Rows} {qStr:List ByteArray→Vm.Rows} {qGNodeS:List GNode→Vm.Rows} {qBool:List Bool→Vm.Rows} (hQ:EQ qIu8 qInt qGExO qGEx qGEv qGOcc qGNode qLGOcc qLInt qGOccO qStr qGNodeS qBool)
include hQ
theorem ug {k:Nat} {p0:List GOcc} {p1:GOcc} {r:List Bool} (hh:cw.f k p0 p1=some r):ak P 260 [tA (qGOcc p0),.agg [iA p1.From,iA p1.To,tA (qInt p1.Ids)]] [hA,hA] (oA 1 (qBool r)):=by
 obtain⟨p1a,p1b,p1c⟩:=p1
 unfold cw.f at hh
 refine go (ts:=[(4,none)]) (rm:=[.own]) (pm:=[.skip,.skip]) Tryz.func260 ?_
 unhygienic intros
 cbv
 obtain⟨G,hh⟩:=ac hh
 obtain⟨H,hh⟩:=ac hh
 obtain⟨I,hh⟩:=ac hh
 refine⟨⟨Nb G,Nb H,Wb I⟩,?_⟩
 obtain⟨J,t,u⟩:=af hh
 refine ay hC eok mixed (fun n (i:(List Bool)×Int)=>cw.l0 k p0 (⟨p1a,p1b,p1c⟩:GOcc) n i.1 i.2)
  (fun⟨c,j⟩=>(⟨[(0,tA (qGOcc p0)),(3,.mptr (3,0) 1 0 0),(5,.ref (9,0) 1 0 (len (qBool c))),(6,iA j)],[((3,0),.box 1 [iA p1a,iA p1b,tA (qInt p1c)]),((9,0),.arr 1 1 (qBool c))]⟩:St))
  (fun(d:List Bool)=>(⟨[(5,.ref (9,0) 1 0 (len (qBool d)))],[((9,0),.arr 1 1 (qBool d))]⟩:St)) (fun x=>x) (.exit 0)
  (i0:=(_,_)) t (fun _=>rfl) ?_ ?_ ?_
 ·rintro⟨v,K⟩ e
  refine ai ?_
  cbv
  all_goals exact J2
 rintro d hx
 subst J
 have hh:=u
 cbv
 exact Eb
 rintro n ⟨c,j⟩ M N hh w y L
 try dsimp only at hh
 unfold cw.l0 at hh
 cbv
 refine bcs (fun b=>?_) (fun b=>?_)
 replace hh:=ifT hh b
 try rw[b]
 cbv
 obtain⟨z,hh⟩:=ac hh
 obtain⟨⟨o,p,s⟩,A,hh⟩:=af hh
 try dsimp only at hh
 refine⟨[iA o,iA p,tA (qInt s)],Nb z,Gb A,?_⟩
 cbv
 obtain⟨B,hh⟩:=ac hh
 obtain⟨C,hh⟩:=ac hh
 refine⟨Nb B,Mb C,?_⟩
 obtain⟨D,F,hh⟩:=af hh
 refine⟨[bA D],Gb F,?_⟩
 cbv
 ·refine w (_,_) _ hh fun⟨v,K⟩ e=>?_
  refine ai ?_
  cbv
  all_goals exact J2
 replace hh:=ifF hh b
 try rw[b]
 cbv
 ·refine y _ _ hh fun v e=>?_
  refine ai ?_
  cbv
  all_goals exact J1
theorem qo {k:Nat} {p0:List GOcc} {p1:GOcc} {r:List Bool} (hh:cw.f k p0 p1=some r):ak P 260 [oA 3 (qGOcc p0),.agg [iA p1.From,iA p1.To,tA (qInt p1.Ids)]] [oA 3 (qGOcc p0),hA] (oA 1 (qBool r)):=by
  cases hQ;exact(ug .mk hh).lend (oC _) (.lend (congrArg A.tree (jc _).symm) (.same rfl .nil))
theorem zB {k:Nat} {p0:Int} {p1:aB} {p2:List GOcc} {p3:List GOcc} {r:aB×(List GOcc)} (hh:dD.f k p0 p1 p2 p3=some r):ak P 244 [iA p0,.agg [oA 3 (qGOcc p1.Left),oA 3 (qGOcc p1.Right)],tA (qGOcc p2),tA (qGOcc p3)] [hA,hA,hA,hA] (.tup [.agg [oA 3 (qGOcc r.1.Left),oA 3 (qGOcc r.1.Right)],oA 3 (qGOcc r.2)]):=by
 obtain⟨p1a,p1b⟩:=p1
 unfold dD.f at hh
 refine go (ts:=[(8,some 171),(9,none)]) (rm:=[.own,.own]) (pm:=[.skip,.skip,.skip,.skip]) Tryz.func244 ?_
 unhygienic intros
 cbv
 obtain⟨S,z,A⟩:=af hh
 refine ay hC eok mixed (fun n (i:(List GOcc)×(List GOcc)×Int)=>dD.l0 k p0 p3 n i.1 i.2.1 i.2.2)
  (fun⟨c,d,p⟩=>(⟨[(0,iA p0),(2,tA (qGOcc p2)),(3,tA (qGOcc p3)),(5,.mptr (5,0) 1 0 0),(8,.mptr (8,0) 1 0 0),(10,.ref (14,0) 1 0 (len (qGOcc d))),(11,iA p),(1000001,.agg [hA,.ref (1,1) 1 0 (len (qGOcc p1b))])],[((1,0),.arr 1 3 (qGOcc c)),((1,1),.arr 1 3 (qGOcc p1b)),((5,0),.box 1 [.ref (1,0) 1 0 (len (qGOcc c)),.ref (1,1) 1 0 (len (qGOcc p1b))]),((8,0),.box 1 [.lit (.slice none 0 0),.lit (.slice none 0 0)]),((14,0),.arr 1 3 (qGOcc d))]⟩:St))
  (fun(⟨j,o⟩:(List GOcc)×(List GOcc))=>(⟨[(2,tA (qGOcc p2)),(5,.mptr (5,0) 1 0 0),(8,.mptr (8,0) 1 0 0),(10,.ref (14,0) 1 0 (len (qGOcc o))),(1000001,.agg [hA,.ref (1,1) 1 0 (len (qGOcc p1b))])],[((1,0),.arr 1 3 (qGOcc j)),((1,1),.arr 1 3 (qGOcc p1b)),((5,0),.box 1 [.ref (1,0) 1 0 (len (qGOcc j)),.ref (1,1) 1 0 (len (qGOcc p1b))]),((8,0),.box 1 [.lit (.slice none 0 0),.lit (.slice none 0 0)]),((14,0),.arr 1 3 (qGOcc o))]⟩:St)) (fun x=>x) (.exit 0)
  (i0:=(_,_,_)) z (fun _=>rfl) ?_ ?_ ?_
 ·rintro⟨B,C,T⟩ e
  refine ai ?_
  cbv
  all_goals exact J3
 rintro⟨j,o⟩ hx
 subst S
 have hh:=A
 cbv
 obtain⟨U,D,hh⟩:=af hh
 refine ag hF (c9 hQ D) ?_
 cbv
 exact Eb
 rintro n ⟨c,d,p⟩ Z D1 hh F G V
 try dsimp only at hh
 unfold dD.l0 at hh
 cbv
 refine bcs (fun b=>?_) (fun b=>?_)
 replace hh:=ifT hh b
 try rw[b]
 cbv
 obtain⟨H,hh⟩:=ac hh
 obtain⟨⟨s,t,u⟩,I,hh⟩:=af hh
 try dsimp only at hh
 refine⟨[iA s,iA t,tA (qInt u)],Nb H,Gb I,?_⟩
 cbv
 obtain⟨W,J,hh⟩:=af hh
 refine ag hF (qo hQ J) ?_
 cbv
 obtain⟨⟨Q,R⟩,K,hh⟩:=af hh
 try dsimp only at hh
 refine⟨Ob,?_⟩
 have fc:=mw hQ K
 try dsimp only at fc
 refine ag hF fc ?_
 cbv
 obtain⟨L,hh⟩:=ac hh
 obtain⟨⟨v,w,y⟩,M,hh⟩:=af hh
 try dsimp only at hh
 refine⟨[iA v,iA w,tA (qInt y)],Nb L,Gb M,?_⟩
 cbv
 obtain⟨X,N,hh⟩:=af hh
 refine ag hF (jS hQ N) ?_
 cbv
 obtain⟨Y,O,hh⟩:=af hh
 refine⟨Ob,?_⟩
 refine ag hF (c9 hQ O) ?_
 cbv
 ·refine F (_,_,_) _ hh fun⟨B,C,T⟩ e=>?_
  refine aq [((1,0),(32,0)),((1,1),(1,1)),((5,0),(5,0)),((8,0),(8,0)),((14,0),(43,0))] ?_
  cbv
  all_goals exact J3
 replace hh:=ifF hh b
 try rw[b]
 cbv
 ·refine G (_,_) _ hh fun⟨B,C⟩ e=>?_
  refine ai ?_
  cbv
  all_goals exact J2

theorem tF {k:Nat} {p0:List GOcc} {p1:Int} {p2:Int} {r:Bool} (hh:ct.f k p0 p1 p2=some r):ak P 275 [tA (qGOcc p0),iA p1,iA p2] [hA,hA,hA] (bA r):=by
 unfold ct.f at hh
 refine go (ts:=[(6,none)]) (rm:=[.own]) (pm:=[.skip,.skip,.skip]) Tryz.func275 ?_
 unhygienic intros
 cbv
 obtain⟨I,z,j⟩:=af hh
 refine ay hC eok mixed (ct.l0 k p0 p1 p2)
  (fun o=>(⟨[(0,tA (qGOcc p0)),(1,iA p1),(2,iA p2),(7,iA o)],[]⟩:St))
  (fun(_:Unit)=>(⟨[],[]⟩:St)) .ok (.exit 0)
  (i0:=_) z (fun _=>rfl) ?_ ?_ ?_
 ·rintro A e
  refine ai ?_
  cbv
  all_goals exact J1
 rintro _ hx
 subst I
 have hh:=j
 cbv
 exact Eb
 rintro n o J K hh p B C
 unfold ct.l0 at hh
 cbv
 refine bcs (fun b=>?_) (fun b=>?_)
 replace hh:=ifT hh b
 try rw[b]
 cbv
 obtain⟨D,hh⟩:=ac hh
 obtain⟨⟨s,t,u⟩,F,hh⟩:=af hh
 try dsimp only at hh
 refine⟨[iA s,iA t,tA (qInt u)],Nb D,Gb F,?_⟩
 cbv
 refine bcs (fun c=>?_) (fun c=>?_)
 replace hh:=ifT hh c
 try rw[c]
 cbv
 obtain⟨G,hh⟩:=ac hh
 obtain⟨⟨v,w,y⟩,H,hh⟩:=af hh
 try dsimp only at hh
 refine⟨[iA v,iA w,tA (qInt y)],Nb G,Gb H,?_⟩
 cbv
 refine bcs (fun d=>?_) (fun d=>?_)
 replace hh:=ifT hh d
 try rw[d]
 cbv
 cases hh
 have hh:some _=some _:=j
 refine C _ _ ?_
 cbv
 exact Eb
 replace hh:=ifF hh d
 try rw[d]
 cbv
 ·refine p _ _ hh fun A e=>?_
  refine ai ?_
  cbv
  all_goals exact J1
 replace hh:=ifF hh c
 try rw[c]
 cbv
 ·refine p _ _ hh fun A e=>?_
  refine ai ?_
  cbv
  all_goals exact J1
 replace hh:=ifF hh b
 try rw[b]
 cbv
 ·refine B () _ hh fun _ e=>?_
  refine ai ?_
  cbv
  all_goals exact J0

theorem xi {k:Nat} {p0:ax} {p1:GOcc} {r:List Bool} (hh:cD.f k p0 p1=some r):ak P 262 [.agg [tA (qGOcc p0.Left),tA (qGOcc p0.Mid)],.agg [iA p1.From,iA p1.To,tA (qInt p1.Ids)]] [hA,hA] (oA 1 (qBool r)):=by
 obtain⟨p0a,p0b⟩:=p0
 obtain⟨p1a,p1b,p1c⟩:=p1
 unfold cD.f at hh
 refine go (ts:=[(4,none)]) (rm:=[.own]) (pm:=[.skip,.skip]) Tryz.func262 ?_
 unhygienic intros
 cbv
 obtain⟨A,hh⟩:=ac hh
 try dsimp only at A
 obtain⟨B,hh⟩:=ac hh
 try dsimp only at B
 obtain⟨C,hh⟩:=ac hh
 try dsimp only at C
 refine⟨⟨Nb A,Nb B,Wb C⟩,?_⟩
 obtain⟨W,D,F⟩:=af hh
 refine ay hC eok mixed (fun n (i:(List Bool)×Int)=>cD.l0 k (⟨p0a,p0b⟩:ax) (⟨p1a,p1b,p1c⟩:GOcc) n i.1 i.2)
  (fun⟨d,o⟩=>(⟨[(2,.mptr (2,0) 1 0 0),(3,.mptr (3,0) 1 0 0),(5,.ref (10,0) 1 0 (len (qBool d))),(6,iA o)],[((2,0),.box 1 [tA (qGOcc p0a),tA (qGOcc p0b)]),((3,0),.box 1 [iA p1a,iA p1b,tA (qInt p1c)]),((10,0),.arr 1 1 (qBool d))]⟩:St))
  (fun(j:List Bool)=>(⟨[(5,.ref (10,0) 1 0 (len (qBool j)))],[((10,0),.arr 1 1 (qBool j))]⟩:St)) (fun x=>x) (.exit 0)
  (i0:=(_,_)) D (fun _=>rfl) ?_ ?_ ?_
 ·rintro⟨s,G⟩ e
  refine ai ?_
  cbv
  all_goals exact J2
 rintro j hx
 subst W
 have hh:=F
 cbv
 exact Eb
 rintro n ⟨d,o⟩ Z D1 hh p H X
 try dsimp only at hh
 unfold cD.l0 at hh
 cbv
 refine bcs (fun b=>?_) (fun b=>?_)
 replace hh:=ifT hh b
 try rw[b]
 cbv
 obtain⟨I,hh⟩:=ac hh
 obtain⟨⟨t,u,v⟩,J,hh⟩:=af hh
 try dsimp only at hh
 refine⟨[iA t,iA u,tA (qInt v)],Nb I,Gb J,?_⟩
 cbv
 refine bcs (fun c=>?_) (fun c=>?_)
 replace hh:=ifT hh c
 try rw[c]
 cbv
 obtain⟨K,hh⟩:=ac hh
 obtain⟨⟨w,y,z⟩,L,hh⟩:=af hh
 try dsimp only at hh
 refine⟨[iA w,iA y,tA (qInt z)],Nb K,Gb L,?_⟩
 cbv
 obtain⟨Y,M,hh⟩:=af hh
 refine ag hF (tF hQ M) ?_
 cbv
 obtain⟨N,hh⟩:=ac hh
 obtain⟨O,hh⟩:=ac hh
 refine⟨Nb N,Mb O,?_⟩
 obtain⟨Q,R,hh⟩:=af hh
 refine⟨[bA Q],Gb R,?_⟩
 cbv
 ·refine p (_,_) _ hh fun⟨s,G⟩ e=>?_
  refine ai ?_
  cbv
  all_goals exact J2
 replace hh:=ifF hh c
 try rw[c]
 cbv
 obtain⟨S,hh⟩:=ac hh
 obtain⟨T,hh⟩:=ac hh
 refine⟨Nb S,Mb T,?_⟩
 obtain⟨U,V,hh⟩:=af hh
 refine⟨[bA U],Gb V,?_⟩
 cbv
 ·refine p (_,_) _ hh fun⟨s,G⟩ e=>?_
  refine ai ?_
  cbv
  all_goals exact J2
 replace hh:=ifF hh b
 try rw[b]
 cbv
 ·refine H _ _ hh fun s e=>?_
  refine ai ?_
  cbv
  all_goals exact J1
theorem mD {k:Nat} {p0:ax} {p1:GOcc} {r:List Bool} (hh:cD.f k p0 p1=some r):ak P 262 [.agg [oA 3 (qGOcc p0.Left),oA 3 (qGOcc p0.Mid)],.agg [iA p1.From,iA p1.To,tA (qInt p1.Ids)]] [.agg [oA 3 (qGOcc p0.Left),oA 3 (qGOcc p0.Mid)],hA] (oA 1 (qBool r)):=by
  cases hQ;exact(xi .mk hh).lend (oC _) (.lend (by simp) (.same rfl .nil))
theorem zy {k:Nat} {p0:Int} {p1:ax} {p2:List GOcc} {p3:List GOcc} {p4:List GOcc} {r:ax×(List GOcc)} (hh:dH.f k p0 p1 p2 p3 p4=some r):ak P 245 [iA p0,.agg [oA 3 (qGOcc p1.Left),oA 3 (qGOcc p1.Mid)],tA (qGOcc p2),tA (qGOcc p3),tA (qGOcc p4)] [hA,hA,hA,hA,hA] (.tup [.agg [oA 3 (qGOcc r.1.Left),oA 3 (qGOcc r.1.Mid)],oA 3 (qGOcc r.2)]):=by
 obtain⟨p1a,p1b⟩:=p1
 unfold dH.f at hh
 refine go (ts:=[(10,some 173),(11,none)]) (rm:=[.own,.own]) (pm:=[.skip,.skip,.skip,.skip,.skip]) Tryz.func245 ?_
 unhygienic intros
 cbv
 obtain⟨T,z,A⟩:=af hh
 refine ay hC eok mixed (fun n (i:(List GOcc)×(List GOcc)×Int)=>dH.l0 k p0 (⟨p1a,p1b⟩:ax) p4 n i.1 i.2.1 i.2.2)
  (fun⟨c,d,p⟩=>(⟨[(0,iA p0),(2,tA (qGOcc p2)),(3,tA (qGOcc p3)),(4,tA (qGOcc p4)),(6,.mptr (6,0) 1 0 0),(10,.mptr (10,0) 1 0 0),(12,.ref (16,0) 1 0 (len (qGOcc d))),(13,iA p),(1000001,.agg [hA,.ref (1,1) 1 0 (len (qGOcc p1b))])],[((1,0),.arr 1 3 (qGOcc c)),((1,1),.arr 1 3 (qGOcc p1b)),((6,0),.box 1 [.ref (1,0) 1 0 (len (qGOcc c)),.ref (1,1) 1 0 (len (qGOcc p1b))]),((10,0),.box 1 [.lit (.slice none 0 0),.lit (.slice none 0 0)]),((16,0),.arr 1 3 (qGOcc d))]⟩:St))
  (fun(⟨j,o⟩:(List GOcc)×(List GOcc))=>(⟨[(2,tA (qGOcc p2)),(3,tA (qGOcc p3)),(6,.mptr (6,0) 1 0 0),(10,.mptr (10,0) 1 0 0),(12,.ref (16,0) 1 0 (len (qGOcc o))),(1000001,.agg [hA,.ref (1,1) 1 0 (len (qGOcc p1b))])],[((1,0),.arr 1 3 (qGOcc j)),((1,1),.arr 1 3 (qGOcc p1b)),((6,0),.box 1 [.ref (1,0) 1 0 (len (qGOcc j)),.ref (1,1) 1 0 (len (qGOcc p1b))]),((10,0),.box 1 [.lit (.slice none 0 0),.lit (.slice none 0 0)]),((16,0),.arr 1 3 (qGOcc o))]⟩:St)) (fun x=>x) (.exit 0)
  (i0:=(_,_,_)) z (fun _=>rfl) ?_ ?_ ?_
 ·rintro⟨B,C,U⟩ e
  refine ai ?_
  cbv
  all_goals exact J3
 rintro⟨j,o⟩ hx
 subst T
 have hh:=A
 cbv
 obtain⟨V,D,hh⟩:=af hh
 refine ag hF (c9 hQ D) ?_
 cbv
 obtain⟨W,F,hh⟩:=af hh
 refine ag hF (c9 hQ F) ?_
 cbv
 exact Eb
 rintro n ⟨c,d,p⟩ N1 D1 hh G H X
 try dsimp only at hh
 unfold dH.l0 at hh
 cbv
 refine bcs (fun b=>?_) (fun b=>?_)
 replace hh:=ifT hh b
 try rw[b]
 cbv
 obtain⟨I,hh⟩:=ac hh
 obtain⟨⟨s,t,u⟩,J,hh⟩:=af hh
 try dsimp only at hh
 refine⟨[iA s,iA t,tA (qInt u)],Nb I,Gb J,?_⟩
 cbv
 obtain⟨Y,K,hh⟩:=af hh
 have fc:=mD hQ K
 try dsimp only at fc
 refine ag hF fc ?_
 cbv
 obtain⟨⟨R,S⟩,L,hh⟩:=af hh
 try dsimp only at hh
 refine⟨Ob,?_⟩
 have fc:=mw hQ L
 try dsimp only at fc
 refine ag hF fc ?_
 cbv
 obtain⟨M,hh⟩:=ac hh
 obtain⟨⟨v,w,y⟩,N,hh⟩:=af hh
 try dsimp only at hh
 refine⟨[iA v,iA w,tA (qInt y)],Nb M,Gb N,?_⟩
 cbv
 obtain⟨Z,O,hh⟩:=af hh
 refine ag hF (jS hQ O) ?_
 cbv
 obtain⟨ek,Q,hh⟩:=af hh
 refine⟨Ob,?_⟩
 refine ag hF (c9 hQ Q) ?_
 cbv
 ·refine G (_,_,_) _ hh fun⟨B,C,U⟩ e=>?_
  refine aq [((1,0),(33,0)),((1,1),(1,1)),((6,0),(6,0)),((10,0),(10,0)),((16,0),(44,0))] ?_
  cbv
  all_goals exact J3
 replace hh:=ifF hh b
 try rw[b]
 cbv
 ·refine H (_,_) _ hh fun⟨B,C⟩ e=>?_
  refine ai ?_
  cbv
  all_goals exact J2

theorem sW {k:Nat} {p0:Int} {p1:List GOcc} {p2:List Bool} {r:(List GOcc)×(List GOcc)} (hh:aE.f k p0 p1 p2=some r):ak P 259 [iA p0,oA 3 (qGOcc p1),tA (qBool p2)] [hA,oA 3 (qGOcc r.2),hA] (.tup [tA (qGOcc r.1),hA]):=by
 unfold aE.f at hh
 refine go (ts:=[(6,none),(7,none)]) (rm:=[.val,.skip]) (pm:=[.skip,.own,.skip]) Tryz.func259 ?_
 unhygienic intros
 cbv
 obtain⟨S,w,y⟩:=af hh
 refine ay hC eok mixed (fun n (i:(List GOcc)×Int)=>aE.l0 k p1 p2 n i.1 i.2)
  (fun⟨T,Fm⟩=>(⟨[(0,iA p0),(1,.ref (1,0) 1 0 (len (qGOcc p1))),(2,tA (qBool p2)),(8,.ref (12,0) 1 0 (len (qGOcc T))),(9,.ref (13,0) 1 0 (len (qGOcc ([]:List GOcc)))),(10,iA Fm),(1000001,.ref (1,0) 1 0 (len (qGOcc p1)))],[((1,0),.arr 1 3 (qGOcc p1)),((12,0),.arr 1 3 (qGOcc T)),((13,0),.arr 1 3 (qGOcc ([]:List GOcc)))]⟩:St))
  (fun(b:List GOcc)=>(⟨[(0,iA p0),(1,.ref (1,0) 1 0 (len (qGOcc p1))),(2,tA (qBool p2)),(8,.ref (12,0) 1 0 (len (qGOcc b))),(9,.ref (13,0) 1 0 (len (qGOcc ([]:List GOcc)))),(1000001,.ref (1,0) 1 0 (len (qGOcc p1)))],[((1,0),.arr 1 3 (qGOcc p1)),((12,0),.arr 1 3 (qGOcc b)),((13,0),.arr 1 3 (qGOcc ([]:List GOcc)))]⟩:St)) (fun x=>x) (.exit 0)
  (i0:=(_,_)) w (fun _=>rfl) ?_ ?_ ?_
 ·rintro⟨j,v⟩ e
  refine ai ?_
  cbv
  all_goals exact J2
 rintro b hx
 subst S
 have hh:=y
 cbv
 refine bcs (fun z=>?_) (fun z=>?_)
 replace hh:=ifT hh z
 try rw[z]
 cbv
 exact Eb
 replace hh:=ifF hh z
 try rw[z]
 cbv
 refine bcs (fun A=>?_) (fun A=>?_)
 replace hh:=ifT hh A
 try rw[A]
 cbv
 exact Eb
 replace hh:=ifF hh A
 try rw[A]
 cbv
 refine bcs (fun B=>?_) (fun B=>?_)
 replace hh:=ifT hh B
 try rw[B]
 cbv
 obtain⟨Gd,hh⟩:=ac hh
 obtain⟨Ge,hh⟩:=ac hh
 obtain⟨Gf,hh⟩:=ac hh
 refine⟨⟨Nb Gd,Nb Ge,Nb Gf⟩,?_⟩
 exact Eb
 replace hh:=ifF hh B
 try rw[B]
 cbv
 refine bcs (fun c=>?_) (fun c=>?_)
 replace hh:=ifT hh c
 try rw[c]
 cbv
 obtain⟨Gg,hh⟩:=ac hh
 obtain⟨Gh,hh⟩:=ac hh
 obtain⟨Gi,hh⟩:=ac hh
 refine⟨⟨Nb Gg,Nb Gh,Nb Gi⟩,?_⟩
 obtain⟨S,w,y⟩:=af hh
 refine ay hC eok mixed (fun n (i:(List GOcc)×Int)=>aE.l1 k p1 p2 b n i.1 i.2)
  (fun⟨U,Fo⟩=>(⟨[(0,iA p0),(1,.ref (1,0) 1 0 (len (qGOcc p1))),(2,tA (qBool p2)),(8,.ref (12,0) 1 (nadd 0 (toNat 0)) (toNat (sub 1 0))),(9,.ref (13,0) 1 0 (len (qGOcc U))),(11,iA Fo),(1000001,.ref (1,0) 1 0 (len (qGOcc p1)))],[((1,0),.arr 1 3 (qGOcc p1)),((12,0),.arr 1 3 (qGOcc b)),((13,0),.arr 1 3 (qGOcc U))]⟩:St))
  (fun(G:List GOcc)=>(⟨[(8,.ref (12,0) 1 (nadd 0 (toNat 0)) (toNat (sub 1 0))),(9,.ref (13,0) 1 0 (len (qGOcc G))),(1000001,.ref (1,0) 1 0 (len (qGOcc p1)))],[((1,0),.arr 1 3 (qGOcc p1)),((12,0),.arr 1 3 (qGOcc b)),((13,0),.arr 1 3 (qGOcc G))]⟩:St)) (fun x=>x) (.exit 3)
  (i0:=(_,_)) w (fun _=>rfl) ?_ ?_ ?_
 ·rintro⟨j,v⟩ e
  refine ai ?_
  cbv
  all_goals exact J2
 rintro G hx
 subst S
 have hh:=y
 cbv
 exact Eb
 rintro n ⟨U,Fo⟩ N1 D1 hh d C Fp
 try dsimp only at hh
 unfold aE.l1 at hh
 cbv
 refine bcs (fun o=>?_) (fun o=>?_)
 replace hh:=ifT hh o
 try rw[o]
 cbv
 obtain⟨Fq,hh⟩:=ac hh
 obtain⟨H,Fr,hh⟩:=af hh
 refine⟨[bA H],Nb Fq,Gb Fr,?_⟩
 cbv
 replace hh:=aG hh
 rcases hh with⟨I,hh⟩|⟨I,hh⟩
 have p:H=true:=Tb I
 have g:=p;cbv at g;try rw[p]
 try rw[g]
 cbv
 first|rw[c]|(have g:=c;cbv at g;rw[g])
 cbv
 obtain⟨Fu,hh⟩:=ac hh
 obtain⟨Fx,hh⟩:=ac hh
 refine⟨Nb Fu,Mb Fx,?_⟩
 obtain⟨⟨O,Q,R⟩,V,hh⟩:=af hh
 try dsimp only at hh
 refine⟨[iA O,iA Q,tA (qInt R)],Gb V,?_⟩
 cbv
 obtain⟨Fz,hh⟩:=ac hh
 obtain⟨FA,hh⟩:=ac hh
 refine⟨Nb Fz,Mb FA,?_⟩
 obtain⟨⟨Y,Z,ek⟩,FB,hh⟩:=af hh
 try dsimp only at hh
 refine⟨[iA Y,iA Z,tA (qInt ek)],Gb FB,?_⟩
 cbv
 obtain⟨W,FE,hh⟩:=af hh
 refine ag hF (mt hQ FE) ?_
 cbv
 replace hh:=aG hh
 rcases hh with⟨J,hh⟩|⟨J,hh⟩
 have s:W=true:=Tb J
 have g:=s;cbv at g;try rw[s]
 try rw[g]
 cbv
 ·refine d (_,_) _ hh fun⟨j,v⟩ e=>?_
  refine ai ?_
  cbv
  all_goals exact J2
 have s:W=false:=Fb J
 have g:=s;cbv at g;try rw[s]
 try rw[g]
 cbv
 obtain⟨FH,hh⟩:=ac hh
 obtain⟨FI,hh⟩:=ac hh
 refine⟨Nb FH,Mb FI,?_⟩
 refine⟨[iA O,iA Q,tA (qInt R)],Gb V,?_⟩
 cbv
 obtain⟨FJ,hh⟩:=ac hh
 refine⟨⟨Ob,Ab⟩,?_⟩
 refine⟨⟨Ob,Wb FJ⟩,?_⟩
 ·refine d (_,_) _ hh fun⟨j,v⟩ e=>?_
  refine aq [((1,0),(1,0)),((12,0),(12,0)),((13,0),(85,0))] ?_
  cbv
  all_goals exact J2
 have p:H=false:=Fb I
 have g:=p;cbv at g;try rw[p]
 try rw[g]
 cbv
 obtain⟨FM,hh⟩:=ac hh
 obtain⟨FN,hh⟩:=ac hh
 refine⟨Nb FM,Mb FN,?_⟩
 obtain⟨⟨EJ,E2,E3⟩,FR,hh⟩:=af hh
 try dsimp only at hh
 refine⟨[iA EJ,iA E2,tA (qInt E3)],Gb FR,?_⟩
 cbv
 obtain⟨FT,hh⟩:=ac hh
 refine⟨⟨Ob,Ab⟩,?_⟩
 refine⟨⟨Ob,Wb FT⟩,?_⟩
 ·refine d (_,_) _ hh fun⟨j,v⟩ e=>?_
  refine aq [((1,0),(1,0)),((12,0),(12,0)),((13,0),(85,0))] ?_
  cbv
  all_goals exact J2
 replace hh:=ifF hh o
 try rw[o]
 cbv
 ·refine C _ _ hh fun j e=>?_
  refine ai ?_
  cbv
  all_goals exact J1
 replace hh:=ifF hh c
 try rw[c]
 cbv
 obtain⟨S,w,y⟩:=af hh
 refine ay hC eok mixed (fun n (i:(List GOcc)×Int)=>aE.l2 k p1 p2 n i.1 i.2)
  (fun⟨K,X⟩=>(⟨[(0,iA p0),(1,.ref (1,0) 1 0 (len (qGOcc p1))),(2,tA (qBool p2)),(8,.ref (12,0) 1 0 (len (qGOcc b))),(9,.ref (13,0) 1 0 (len (qGOcc K))),(11,iA X),(1000001,.ref (1,0) 1 0 (len (qGOcc p1)))],[((1,0),.arr 1 3 (qGOcc p1)),((12,0),.arr 1 3 (qGOcc b)),((13,0),.arr 1 3 (qGOcc K))]⟩:St))
  (fun(L:List GOcc)=>(⟨[(8,.ref (12,0) 1 0 (len (qGOcc b))),(9,.ref (13,0) 1 0 (len (qGOcc L))),(1000001,.ref (1,0) 1 0 (len (qGOcc p1)))],[((1,0),.arr 1 3 (qGOcc p1)),((12,0),.arr 1 3 (qGOcc b)),((13,0),.arr 1 3 (qGOcc L))]⟩:St)) (fun x=>x) (.exit 3)
  (i0:=(_,_)) w (fun _=>rfl) ?_ ?_ ?_
 ·rintro⟨j,v⟩ e
  refine ai ?_
  cbv
  all_goals exact J2
 rintro L hx
 subst S
 have hh:=y
 cbv
 exact Eb
 rintro n ⟨K,X⟩ N1 D1 hh d C Fp
 try dsimp only at hh
 unfold aE.l2 at hh
 cbv
 refine bcs (fun t=>?_) (fun t=>?_)
 replace hh:=ifT hh t
 try rw[t]
 cbv
 obtain⟨FW,hh⟩:=ac hh
 obtain⟨M,F4,hh⟩:=af hh
 refine⟨[bA M],Nb FW,Gb F4,?_⟩
 cbv
 replace hh:=aG hh
 rcases hh with⟨N,hh⟩|⟨N,hh⟩
 have u:M=true:=Tb N
 have g:=u;cbv at g;try rw[u]
 try rw[g]
 cbv
 first|rw[c]|(have g:=c;cbv at g;rw[g])
 cbv
 ·refine d (_,_) _ hh fun⟨j,v⟩ e=>?_
  refine ai ?_
  cbv
  all_goals exact J2
 have u:M=false:=Fb N
 have g:=u;cbv at g;try rw[u]
 try rw[g]
 cbv
 obtain⟨F5,hh⟩:=ac hh
 obtain⟨F6,hh⟩:=ac hh
 refine⟨Nb F5,Mb F6,?_⟩
 obtain⟨⟨Ff,Fj,Fk⟩,F7,hh⟩:=af hh
 try dsimp only at hh
 refine⟨[iA Ff,iA Fj,tA (qInt Fk)],Gb F7,?_⟩
 cbv
 obtain⟨F8,hh⟩:=ac hh
 refine⟨⟨Ob,Ab⟩,?_⟩
 refine⟨⟨Ob,Wb F8⟩,?_⟩
 ·refine d (_,_) _ hh fun⟨j,v⟩ e=>?_
  refine aq [((1,0),(1,0)),((12,0),(12,0)),((13,0),(85,0))] ?_
  cbv
  all_goals exact J2
 replace hh:=ifF hh t
 try rw[t]
 cbv
 ·refine C _ _ hh fun j e=>?_
  refine ai ?_
  cbv
  all_goals exact J1
 rintro n ⟨T,Fm⟩ N1 D1 hh d C Fp
 try dsimp only at hh
 unfold aE.l0 at hh
 cbv
 refine bcs (fun D=>?_) (fun D=>?_)
 replace hh:=ifT hh D
 try rw[D]
 cbv
 obtain⟨Gl,hh⟩:=ac hh
 obtain⟨Gm,Gn,hh⟩:=af hh
 refine⟨[bA Gm],Nb Gl,Gb Gn,?_⟩
 cbv
 refine bcs (fun F=>?_) (fun F=>?_)
 replace hh:=ifT hh F
 try rw[F]
 cbv
 obtain⟨Gp,hh⟩:=ac hh
 obtain⟨Gq,hh⟩:=ac hh
 refine⟨Nb Gp,Mb Gq,?_⟩
 obtain⟨⟨F9,Ga,Gc⟩,Gr,hh⟩:=af hh
 try dsimp only at hh
 refine⟨[iA F9,iA Ga,tA (qInt Gc)],Gb Gr,?_⟩
 cbv
 obtain⟨Gs,hh⟩:=ac hh
 refine⟨⟨Ob,Ab⟩,?_⟩
 refine⟨⟨Ob,Wb Gs⟩,?_⟩
 ·refine d (_,_) _ hh fun⟨j,v⟩ e=>?_
  refine aq [((1,0),(1,0)),((12,0),(30,0)),((13,0),(13,0))] ?_
  cbv
  all_goals exact J2
 replace hh:=ifF hh F
 try rw[F]
 cbv
 ·refine d (_,_) _ hh fun⟨j,v⟩ e=>?_
  refine ai ?_
  cbv
  all_goals exact J2
 replace hh:=ifF hh D
 try rw[D]
 cbv
 ·refine C _ _ hh fun j e=>?_
  refine ai ?_
  cbv
  all_goals exact J1

theorem wQ {k:Nat} {p0:Int} {p1:ax} {p2:List GOcc} {p3:List GOcc} {p4:List GOcc} {r:ax×(List GOcc)} (hh:dq.f k p0 p1 p2 p3 p4=some r):ak P 246 [iA p0,.agg [oA 3 (qGOcc p1.Left),oA 3 (qGOcc p1.Mid)],tA (qGOcc p2),tA (qGOcc p3),tA (qGOcc p4)] [hA,hA,hA,hA,hA] (.tup [.agg [oA 3 (qGOcc r.1.Left),oA 3 (qGOcc r.1.Mid)],oA 3 (qGOcc r.2)]):=by
 obtain⟨p1a,p1b⟩:=p1
 unfold dq.f at hh
 refine go (ts:=[(10,some 173),(11,none)]) (rm:=[.own,.own]) (pm:=[.skip,.skip,.skip,.skip,.skip]) Tryz.func246 ?_
 unhygienic intros
 cbv
 obtain⟨U,z,A⟩:=af hh
 refine ay hC eok mixed (fun n (i:(List GOcc)×(List GOcc)×Int)=>dq.l0 k p0 (⟨p1a,p1b⟩:ax) p3 n i.1 i.2.1 i.2.2)
  (fun⟨c,j,p⟩=>(⟨[(0,iA p0),(2,tA (qGOcc p2)),(3,tA (qGOcc p3)),(4,tA (qGOcc p4)),(6,.mptr (6,0) 1 0 0),(10,.mptr (10,0) 1 0 0),(12,.ref (16,0) 1 0 (len (qGOcc j))),(13,iA p),(1000001,.agg [.ref (1,0) 1 0 (len (qGOcc c)),.ref (1,1) 1 0 (len (qGOcc p1b))])],[((1,0),.arr 1 3 (qGOcc c)),((1,1),.arr 1 3 (qGOcc p1b)),((6,0),.box 1 [.ref (1,0) 1 0 (len (qGOcc c)),.ref (1,1) 1 0 (len (qGOcc p1b))]),((10,0),.box 1 [.lit (.slice none 0 0),.lit (.slice none 0 0)]),((16,0),.arr 1 3 (qGOcc j))]⟩:St))
  (fun(⟨d,o⟩:(List GOcc)×(List GOcc))=>(⟨[(2,tA (qGOcc p2)),(4,tA (qGOcc p4)),(6,.mptr (6,0) 1 0 0),(10,.mptr (10,0) 1 0 0),(12,.ref (16,0) 1 0 (len (qGOcc o))),(1000001,.agg [.ref (1,0) 1 0 (len (qGOcc d)),.ref (1,1) 1 0 (len (qGOcc p1b))])],[((1,0),.arr 1 3 (qGOcc d)),((1,1),.arr 1 3 (qGOcc p1b)),((6,0),.box 1 [.ref (1,0) 1 0 (len (qGOcc d)),.ref (1,1) 1 0 (len (qGOcc p1b))]),((10,0),.box 1 [.lit (.slice none 0 0),.lit (.slice none 0 0)]),((16,0),.arr 1 3 (qGOcc o))]⟩:St)) (fun x=>x) (.exit 0)
  (i0:=(_,_,_)) z (fun _=>rfl) ?_ ?_ ?_
 ·rintro⟨B,C,V⟩ e
  refine ai ?_
  cbv
  all_goals exact J3
 rintro⟨d,o⟩ hx
 subst U
 have hh:=A
 cbv
 obtain⟨W,D,hh⟩:=af hh
 refine ag hF (c9 hQ D) ?_
 cbv
 obtain⟨X,F,hh⟩:=af hh
 refine ag hF (c9 hQ F) ?_
 cbv
 exact Eb
 rintro n ⟨c,j,p⟩ N1 D1 hh G H Y
 try dsimp only at hh
 unfold dq.l0 at hh
 cbv
 refine bcs (fun b=>?_) (fun b=>?_)
 replace hh:=ifT hh b
 try rw[b]
 cbv
 obtain⟨I,hh⟩:=ac hh
 obtain⟨⟨s,t,u⟩,J,hh⟩:=af hh
 try dsimp only at hh
 refine⟨[iA s,iA t,tA (qInt u)],Nb I,Gb J,?_⟩
 cbv
 obtain⟨Z,K,hh⟩:=af hh
 have fc:=mD hQ K
 try dsimp only at fc
 refine ag hF fc ?_
 cbv
 obtain⟨⟨S,T⟩,L,hh⟩:=af hh
 try dsimp only at hh
 obtain⟨M,hh⟩:=ac hh
 try dsimp only at M
 refine⟨Ob,?_⟩
 have fc:=sW hQ L
 try dsimp only at fc
 refine ag hF fc ?_
 cbv
 obtain⟨N,hh⟩:=ac hh
 obtain⟨⟨v,w,y⟩,O,hh⟩:=af hh
 try dsimp only at hh
 refine⟨[iA v,iA w,tA (qInt y)],Nb N,Gb O,?_⟩
 cbv
 obtain⟨ek,Q,hh⟩:=af hh
 refine ag hF (jS hQ Q) ?_
 cbv
 obtain⟨EJ,R,hh⟩:=af hh
 refine⟨Ob,?_⟩
 refine ag hF (c9 hQ R) ?_
 cbv
 ·refine G (_,_,_) _ hh fun⟨B,C,V⟩ e=>?_
  refine aq [((1,0),(1,0)),((1,1),(1,1)),((6,0),(6,0)),((10,0),(10,0)),((16,0),(44,0))] ?_
  cbv
  all_goals exact J3
 replace hh:=ifF hh b
 try rw[b]
 cbv
 ·refine H (_,_) _ hh fun⟨B,C⟩ e=>?_
  refine ai ?_
  cbv
  all_goals exact J2

theorem xJ {k:Nat} {p0:List GOcc} {p1:Int} {r:(List GOcc)×(List GOcc)} (hh:dB.f k p0 p1=some r):ak P 263 [tA (qGOcc p0),iA p1] [hA,hA] (.tup [oA 3 (qGOcc r.1),oA 3 (qGOcc r.2)]):=by
 unfold dB.f at hh
 refine go (ts:=[(4,none),(5,none)]) (rm:=[.own,.own]) (pm:=[.skip,.skip]) Tryz.func263 ?_
 unhygienic intros
 cbv
 obtain⟨U,H,I⟩:=af hh
 refine ay hC eok mixed (fun n (i:(List GOcc)×(List GOcc)×Int)=>dB.l0 k p0 p1 n i.1 i.2.1 i.2.2)
  (fun⟨d,j,s⟩=>(⟨[(0,tA (qGOcc p0)),(1,iA p1),(6,.ref (9,0) 1 0 (len (qGOcc d))),(7,.ref (10,0) 1 0 (len (qGOcc j))),(8,iA s)],[((9,0),.arr 1 3 (qGOcc d)),((10,0),.arr 1 3 (qGOcc j))]⟩:St))
  (fun(⟨o,p⟩:(List GOcc)×(List GOcc))=>(⟨[(6,.ref (9,0) 1 0 (len (qGOcc o))),(7,.ref (10,0) 1 0 (len (qGOcc p)))],[((9,0),.arr 1 3 (qGOcc o)),((10,0),.arr 1 3 (qGOcc p))]⟩:St)) (fun x=>x) (.exit 0)
  (i0:=(_,_,_)) H (fun _=>rfl) ?_ ?_ ?_
 ·rintro⟨u,v,J⟩ e
  refine ai ?_
  cbv
  all_goals exact J3
 rintro⟨o,p⟩ hx
 subst U
 have hh:=I
 cbv
 exact Eb
 rintro n ⟨d,j,s⟩ W X hh t K V
 try dsimp only at hh
 unfold dB.l0 at hh
 cbv
 refine bcs (fun b=>?_) (fun b=>?_)
 replace hh:=ifT hh b
 try rw[b]
 cbv
 obtain⟨L,hh⟩:=ac hh
 obtain⟨⟨w,y,z⟩,M,hh⟩:=af hh
 try dsimp only at hh
 refine⟨[iA w,iA y,tA (qInt z)],Nb L,Gb M,?_⟩
 cbv
 refine bcs (fun c=>?_) (fun c=>?_)
 replace hh:=ifT hh c
 try rw[c]
 cbv
 obtain⟨N,hh⟩:=ac hh
 obtain⟨⟨A,B,C⟩,O,hh⟩:=af hh
 try dsimp only at hh
 refine⟨[iA A,iA B,tA (qInt C)],Nb N,Gb O,?_⟩
 cbv
 obtain⟨Q,hh⟩:=ac hh
 refine⟨⟨Ob,Ab⟩,?_⟩
 refine⟨⟨Ob,Wb Q⟩,?_⟩
 ·refine t (_,_,_) _ hh fun⟨u,v,J⟩ e=>?_
  refine aq [((9,0),(30,0)),((10,0),(10,0))] ?_
  cbv
  all_goals exact J3
 replace hh:=ifF hh c
 try rw[c]
 cbv
 obtain⟨R,hh⟩:=ac hh
 obtain⟨⟨D,F,G⟩,S,hh⟩:=af hh
 try dsimp only at hh
 refine⟨[iA D,iA F,tA (qInt G)],Nb R,Gb S,?_⟩
 cbv
 obtain⟨T,hh⟩:=ac hh
 refine⟨⟨Ob,Ab⟩,?_⟩
 refine⟨⟨Ob,Wb T⟩,?_⟩
 ·refine t (_,_,_) _ hh fun⟨u,v,J⟩ e=>?_
  refine aq [((9,0),(9,0)),((10,0),(37,0))] ?_
  cbv
  all_goals exact J3
 replace hh:=ifF hh b
 try rw[b]
 cbv
 ·refine K (_,_) _ hh fun⟨u,v⟩ e=>?_
  refine ai ?_
  cbv
  all_goals exact J2

theorem vV {p0:GOcc} {p1:Int} {r:GOcc} (hh:gU.f p0 p1=some r):ak P 264 [.agg [iA p0.From,iA p0.To,tA (qInt p0.Ids)],iA p1] [hA,hA] (.agg [iA r.From,iA r.To,oA 1 (qInt r.Ids)]):=by
 obtain⟨p0a,p0b,p0c⟩:=p0
 unfold gU.f at hh
 refine go (ts:=[(4,some 67)]) (rm:=[.own]) (pm:=[.skip,.skip]) Tryz.func264 ?_
 unhygienic intros
 cbv
 obtain⟨⟨c,d,j⟩,b,hh⟩:=af hh
 try dsimp only at hh
 have fc:=jP hQ b
 try dsimp only at fc
 refine ag hF fc ?_
 cbv
 exact Eb

theorem xu {k:Nat} {p0:GNode} {p1:Int} {p2:List GOcc} {r:GNode×(List GOcc)} (hh:dl.f k p0 p1 p2=some r):ak P 247 [.agg [iA p0.Kind,iA p0.Sym,iA p0.N,oA 1 (qInt p0.Kids),oA 3 (qGOcc p0.Pair.Left),oA 3 (qGOcc p0.Pair.Right),oA 3 (qGOcc p0.Span.Left),oA 3 (qGOcc p0.Span.Mid),oA 3 (qGOcc p0.Due),iA p0.Many],iA p1,tA (qGOcc p2)] [hA,hA,hA] (.tup [.agg [iA r.1.Kind,iA r.1.Sym,iA r.1.N,oA 1 (qInt r.1.Kids),oA 3 (qGOcc r.1.Pair.Left),oA 3 (qGOcc r.1.Pair.Right),oA 3 (qGOcc r.1.Span.Left),oA 3 (qGOcc r.1.Span.Mid),oA 3 (qGOcc r.1.Due),iA r.1.Many],oA 3 (qGOcc r.2)]):=by
 obtain⟨p0a,p0b,p0c,p0d,⟨p0e,p0f⟩,⟨p0g,p0h⟩,p0i,p0j⟩:=p0
 unfold dl.f at hh
 refine go (ts:=[(6,some 175),(7,none)]) (rm:=[.own,.own]) (pm:=[.skip,.skip,.skip]) Tryz.func247 ?_
 unhygienic intros
 cbv
 obtain⟨⟨b,F⟩,G,hh⟩:=af hh
 try dsimp only at hh
 refine⟨Ob,?_⟩
 have fc:=xJ hQ G
 try dsimp only at fc
 refine ag hF fc ?_
 cbv
 obtain⟨H,u,v⟩:=af hh
 refine ay hC eok mixed (fun n (i:(List GOcc)×Int)=>dl.l0 k (⟨p0a,p0b,p0c,p0d,⟨p0e,p0f⟩,⟨p0g,p0h⟩,p0i,p0j⟩:GNode) p2 n i.1 i.2)
  (fun⟨d,o⟩=>(⟨[(2,tA (qGOcc p2)),(3,.mptr (3,0) 1 0 0),(6,.mptr (6,0) 1 0 0),(8,.ref (15,0) 1 0 (len (qGOcc b))),(9,.ref (15,1) 1 0 (len (qGOcc d))),(10,iA o),(1000000,.agg [iA p0a,iA p0b,iA p0c,.ref (0,0) 1 0 (len (qInt p0d)),.ref (0,1) 1 0 (len (qGOcc p0e)),.ref (0,2) 1 0 (len (qGOcc p0f)),.ref (0,3) 1 0 (len (qGOcc p0g)),.ref (0,4) 1 0 (len (qGOcc p0h)),.ref (0,5) 1 0 (len (qGOcc p0i)),iA p0j])],[((0,0),.arr 1 1 (qInt p0d)),((0,1),.arr 1 3 (qGOcc p0e)),((0,2),.arr 1 3 (qGOcc p0f)),((0,3),.arr 1 3 (qGOcc p0g)),((0,4),.arr 1 3 (qGOcc p0h)),((0,5),.farr 1 3 (qGOcc p0i)),((3,0),.box 1 [iA p0a,iA p0b,iA p0c,.ref (0,0) 1 0 (len (qInt p0d)),.ref (0,1) 1 0 (len (qGOcc p0e)),.ref (0,2) 1 0 (len (qGOcc p0f)),.ref (0,3) 1 0 (len (qGOcc p0g)),.ref (0,4) 1 0 (len (qGOcc p0h)),.ref (0,5) 1 0 (len (qGOcc p0i)),iA p0j]),((6,0),.box 1 [iA 0,iA 0,iA 0,.lit (.slice none 0 0),.lit (.slice none 0 0),.lit (.slice none 0 0),.lit (.slice none 0 0),.lit (.slice none 0 0),.lit (.slice none 0 0),iA 0]),((15,0),.arr 1 3 (qGOcc b)),((15,1),.arr 1 3 (qGOcc d))]⟩:St))
  (fun(j:List GOcc)=>(⟨[(3,.mptr (3,0) 1 0 0),(6,.mptr (6,0) 1 0 0),(8,.ref (15,0) 1 0 (len (qGOcc b))),(9,.ref (15,1) 1 0 (len (qGOcc j))),(1000000,.agg [iA p0a,iA p0b,iA p0c,.ref (0,0) 1 0 (len (qInt p0d)),.ref (0,1) 1 0 (len (qGOcc p0e)),.ref (0,2) 1 0 (len (qGOcc p0f)),.ref (0,3) 1 0 (len (qGOcc p0g)),.ref (0,4) 1 0 (len (qGOcc p0h)),.ref (0,5) 1 0 (len (qGOcc p0i)),iA p0j])],[((0,0),.arr 1 1 (qInt p0d)),((0,1),.arr 1 3 (qGOcc p0e)),((0,2),.arr 1 3 (qGOcc p0f)),((0,3),.arr 1 3 (qGOcc p0g)),((0,4),.arr 1 3 (qGOcc p0h)),((0,5),.farr 1 3 (qGOcc p0i)),((3,0),.box 1 [iA p0a,iA p0b,iA p0c,.ref (0,0) 1 0 (len (qInt p0d)),.ref (0,1) 1 0 (len (qGOcc p0e)),.ref (0,2) 1 0 (len (qGOcc p0f)),.ref (0,3) 1 0 (len (qGOcc p0g)),.ref (0,4) 1 0 (len (qGOcc p0h)),.ref (0,5) 1 0 (len (qGOcc p0i)),iA p0j]),((6,0),.box 1 [iA 0,iA 0,iA 0,.lit (.slice none 0 0),.lit (.slice none 0 0),.lit (.slice none 0 0),.lit (.slice none 0 0),.lit (.slice none 0 0),.lit (.slice none 0 0),iA 0]),((15,0),.arr 1 3 (qGOcc b)),((15,1),.arr 1 3 (qGOcc j))]⟩:St)) (fun x=>x) (.exit 0)
  (i0:=(_,_)) u (fun _=>rfl) ?_ ?_ ?_
 ·rintro⟨w,I⟩ e
  refine ai ?_
  cbv
  all_goals exact J2
 rintro j hx
 subst H
 have hh:=v
 cbv
 exact Eb
 rintro n ⟨d,o⟩ Q R hh y z M
 try dsimp only at hh
 unfold dl.l0 at hh
 cbv
 refine bcs (fun c=>?_) (fun c=>?_)
 replace hh:=ifT hh c
 try rw[c]
 cbv
 obtain⟨A,hh⟩:=ac hh
 obtain⟨⟨p,s,t⟩,B,hh⟩:=af hh
 try dsimp only at hh
 refine⟨[iA p,iA s,tA (qInt t)],Nb A,Gb B,?_⟩
 cbv
 obtain⟨⟨J,K,L⟩,C,hh⟩:=af hh
 try dsimp only at hh
 have fc:=vV hQ C
 try dsimp only at fc
 refine ag hF fc ?_
 cbv
 obtain⟨O,D,hh⟩:=af hh
 refine⟨Ob,?_⟩
 refine ag hF (iT hQ D) ?_
 cbv
 ·refine y (_,_) _ hh fun⟨w,I⟩ e=>?_
  refine aq [((0,0),(0,0)),((0,1),(0,1)),((0,2),(0,2)),((0,3),(0,3)),((0,4),(0,4)),((0,5),(0,5)),((3,0),(3,0)),((6,0),(6,0)),((15,0),(15,0)),((15,1),(32,0))] ?_
  cbv
  all_goals exact J2
 replace hh:=ifF hh c
 try rw[c]
 cbv
 ·refine z _ _ hh fun w e=>?_
  refine ai ?_
  cbv
  all_goals exact J1

end Go.Proofs.YtlbnmldopjadoaaGreat
