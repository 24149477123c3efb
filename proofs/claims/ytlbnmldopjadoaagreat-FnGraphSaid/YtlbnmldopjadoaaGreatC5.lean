/- The functions of this program do what the plain ones do. -/
import Derived.Test.YtlbnmldopjadoaaGreatC4
namespace Go.Proofs.YtlbnmldopjadoaaGreat
open Go Go.Vm
set_option linter.unusedVariables false
set_option maxHeartbeats 4000000
set_option maxRecDepth 4000
variable {qIu8:List Int→Vm.Rows} {qInt:List Int→Vm.Rows} {qGExO:List GEx→Vm.Rows} {qGEx:List GEx→Vm.Rows} {qGEv:List GEv→Vm.Rows} {qGOcc:List GOcc→Vm.Rows} {qGNode:List GNode→Vm.Rows} {qLGOcc:List (List GOcc)→Vm.Rows} {qLInt:List (List Int)→Vm.Rows} {qGOccO:List GOcc→Vm.Rows} {qStr:List ByteArray→Vm.Rows} {qGNodeS:List GNode→Vm.Rows} {qBool:List Bool→Vm.Rows} (hQ:EQ qIu8 qInt qGExO qGEx qGEv qGOcc qGNode qLGOcc qLInt qGOccO qStr qGNodeS qBool)
include hQ
theorem ul {k:Nat} {p0:Int} {p1:aB} {p2:List GOcc} {p3:List GOcc} {r:Bool} (hh:gt.f k p0 p1 p2 p3=some r):ak P 231 [iA p0,.agg [tA (qGOcc p1.Left),tA (qGOcc p1.Right)],tA (qGOcc p2),tA (qGOcc p3)] [hA,hA,hA,hA] (bA r):=by
 obtain⟨p1a,p1b⟩:=p1
 unfold gt.f at hh
 refine go (ts:=[(8,none)]) (rm:=[.own]) (pm:=[.skip,.skip,.skip,.skip]) Tryz.func231 ?_
 unhygienic intros
 cbv
 obtain⟨v,p,hh⟩:=af hh
 refine ag hF (ix hQ p) ?_
 cbv
 refine bcs (fun d=>?_) (fun d=>?_)
 replace hh:=ifT hh d
 try rw[d]
 cbv
 obtain⟨w,s,hh⟩:=af hh
 refine ag hF (w8 hQ s) ?_
 cbv
 refine bcs (fun b=>?_) (fun b=>?_)
 replace hh:=ifT hh b
 try rw[b]
 cbv
 obtain⟨t,j,hh⟩:=af hh
 refine ag hF (cZ hQ j) ?_
 cbv
 refine bcs (fun c=>?_) (fun c=>?_)
 replace hh:=ifT hh c
 try rw[c]
 cbv
 obtain⟨u,o,hh⟩:=af hh
 refine ag hF (cZ hQ o) ?_
 cbv
 exact Eb
 replace hh:=ifF hh c
 try rw[c]
 cbv
 exact Eb
 replace hh:=ifF hh b
 try rw[b]
 cbv
 exact Eb
 replace hh:=ifF hh d
 try rw[d]
 cbv
 exact Eb
theorem lZ {k:Nat} {p0:Int} {p1:aB} {p2:List GOcc} {p3:List GOcc} {r:Bool} (hh:gt.f k p0 p1 p2 p3=some r):ak P 231 [iA p0,.agg [oA 3 (qGOccO p1.Left),oA 3 (qGOccO p1.Right)],tA (qGOcc p2),tA (qGOcc p3)] [hA,.agg [oA 3 (qGOccO p1.Left),oA 3 (qGOccO p1.Right)],hA,hA] (bA r):=by
  cases hQ;exact(ul .mk hh).lend (rfl) (.same rfl (.lend (by simp) (.same rfl (.same rfl .nil))))

theorem kx {k:Nat} {p0:List (List GOcc)} {r:List Int} (hh:bn.f k p0=some r):ak P 232 [tA (qLGOcc p0)] [hA] (tA (qInt r)):=by
 unfold bn.f at hh
 refine go (ts:=[(2,none)]) (rm:=[.val]) (pm:=[.skip]) Tryz.func232 ?_
 unhygienic intros
 cbv
 obtain⟨S,B,C⟩:=af hh
 refine ay hC eok mixed (fun n (i:(List Int)×Int)=>bn.l2 k p0 n i.1 i.2)
  (fun⟨o,d⟩=>(⟨[(3,.ref (3,50) 1 0 (len (qInt o))),(8,tA (qLGOcc p0)),(9,iA (cast (len (qLGOcc p0)))),(10,iA d)],[((3,50),.arr 1 1 (qInt o))]⟩:St))
  (fun(p:List Int)=>(⟨[(3,.ref (3,50) 1 0 (len (qInt p)))],[((3,50),.arr 1 1 (qInt p))]⟩:St)) (fun x=>x) (.exit 0)
  (i0:=(_,_)) B (fun _=>rfl) ?_ ?_ ?_
 ·rintro⟨s,w⟩ e
  refine aq [] ?_
  cbv
  all_goals exact J2
 rintro p hx
 subst S
 have hh:=C
 cbv
 obtain⟨U,D,hh⟩:=af hh
 obtain⟨V,hh⟩:=ac hh
 refine ag hF (qj hQ D) ?_
 cbv
 obtain⟨W,F,hh⟩:=af hh
 refine⟨Ob,?_⟩
 refine ag hF (gh hQ F) ?_
 cbv
 exact Eb
 rintro n ⟨o,d⟩ Z D1 hh G H X
 try dsimp only at hh
 unfold bn.l2 at hh
 cbv
 refine bcs (fun b=>?_) (fun b=>?_)
 replace hh:=ifT hh b
 try rw[b]
 cbv
 obtain⟨I,hh⟩:=ac hh
 obtain⟨j,J,hh⟩:=af hh
 refine⟨[tA (qGOcc j)],Nb I,Gb J,?_⟩
 cbv
 obtain⟨T,K,L⟩:=af hh
 refine ay hC eok mixed (fun n (i:(List Int)×Int)=>bn.l3 k j n i.1 i.2)
  (fun⟨t,v⟩=>(⟨[(3,.ref (3,50) 1 0 (len (qInt t))),(8,tA (qLGOcc p0)),(9,iA (cast (len (qLGOcc p0)))),(10,iA d),(14,tA (qGOcc j)),(15,iA (cast (len (qGOcc j)))),(16,iA v)],[((3,50),.arr 1 1 (qInt t))]⟩:St))
  (fun(u:List Int)=>(⟨[(3,.ref (3,50) 1 0 (len (qInt u))),(8,tA (qLGOcc p0)),(9,iA (cast (len (qLGOcc p0)))),(10,iA d)],[((3,50),.arr 1 1 (qInt u))]⟩:St)) (fun x=>x) (.exit 2)
  (i0:=(_,_)) K (fun _=>rfl) ?_ ?_ ?_
 ·rintro⟨s,w⟩ e
  refine ai ?_
  cbv
  all_goals exact J2
 rintro u hx
 subst T
 have hh:=L
 cbv
 ·refine G (_,_) _ hh fun⟨s,w⟩ e=>?_
  refine ai ?_
  cbv
  all_goals exact J2
 rintro n ⟨t,v⟩ N2 D2 hh M N Y
 try dsimp only at hh
 unfold bn.l3 at hh
 cbv
 refine bcs (fun c=>?_) (fun c=>?_)
 replace hh:=ifT hh c
 try rw[c]
 cbv
 obtain⟨O,hh⟩:=ac hh
 obtain⟨⟨y,z,A⟩,Q,hh⟩:=af hh
 try dsimp only at hh
 refine⟨[iA y,iA z,tA (qInt A)],Nb O,Gb Q,?_⟩
 cbv
 obtain⟨R,hh⟩:=ac hh
 refine⟨⟨Ob,Ab⟩,?_⟩
 refine⟨⟨Ob,Wb R⟩,?_⟩
 ·refine M (_,_) _ hh fun⟨s,w⟩ e=>?_
  refine aq [((3,50),(24,0))] ?_
  cbv
  all_goals exact J2
 replace hh:=ifF hh c
 try rw[c]
 cbv
 ·refine N _ _ hh fun s e=>?_
  refine ai ?_
  cbv
  all_goals exact J1
 replace hh:=ifF hh b
 try rw[b]
 cbv
 ·refine H _ _ hh fun s e=>?_
  refine ai ?_
  cbv
  all_goals exact J1

theorem lS {k:Nat} {g3:aB→Int→(List GOcc)→(List GOcc)→Option (aB×(List GOcc))} (hg3:∀{y0:aB} {y1:Int} {y2:List GOcc} {y3:List GOcc} {r:aB×(List GOcc)},g3 y0 y1 y2 y3=some r→ak P 197 [.agg [tA (qGOcc y0.Left),tA (qGOcc y0.Right)],iA y1,tA (qGOcc y2),tA (qGOcc y3)] [hA,hA,hA,hA] (.tup [.agg [tA (qGOcc r.1.Left),tA (qGOcc r.1.Right)],tA (qGOcc r.2)])) {p0:Int} {p1:List GOcc} {p2:List GOcc} {r:(List GOcc)×Bool} (hh:ce.f g3 k p0 p1 p2=some r):ak P 196 [iA p0,tA (qGOcc p1),tA (qGOcc p2),.clo 197 []] [hA,hA,hA,hA] (.tup [oA 3 (qGOccO r.1),bA r.2]):=by
 unfold ce.f at hh
 refine go (ts:=[(8,none),(9,none)]) (rm:=[.own,.own]) (pm:=[.skip,.skip,.skip,.skip]) Tryz.func196 ?_
 unhygienic intros
 cbv
 obtain⟨v,R,hh⟩:=af hh
 refine⟨3,?_⟩
 cbv
 refine⟨3,?_⟩
 cbv
 have fc:=lZ hQ R
 try dsimp only at fc
 refine ag hF fc ?_
 cbv
 replace hh:=aG hh
 rcases hh with⟨t,hh⟩|⟨t,hh⟩
 have c:v=true:=Tb t
 have g:=c;cbv at g;try rw[c]
 try rw[g]
 cbv
 obtain⟨u,S,hh⟩:=af hh
 refine⟨Ob,?_⟩
 refine ag hF (kx hQ S) ?_
 cbv
 obtain⟨T,w,y⟩:=af hh
 refine ay hC eok mixed (fun n (i:(List GOcc)×(List GOcc)×(List GOcc)×Int)=>ce.l0 k g3 p0 p1 p2 u n i.1 i.2.1 i.2.2.1 i.2.2.2)
  (fun⟨d,j,o,p⟩=>(⟨[(0,iA p0),(1,tA (qGOcc p1)),(2,tA (qGOcc p2)),(3,.clo 197 []),(10,.mptr (10,0) 1 0 0),(11,tA (qGOcc o)),(25,tA (qInt u)),(26,iA (cast (len (qInt u)))),(27,iA p)],[((10,0),.box 1 [tA (qGOcc d),tA (qGOcc j)])]⟩:St))
  (fun(s:List GOcc)=>(⟨[(11,tA (qGOcc s))],[]⟩:St)) (fun x=>x) (.exit 0)
  (i0:=(_,_,_,_)) w (fun _=>rfl) ?_ ?_ ?_
 ·rintro⟨z,U,V,W⟩ e
  refine ai ?_
  cbv
  all_goals exact J4
 rintro s hx
 subst T
 have hh:=y
 cbv
 obtain⟨⟨N,O⟩,A,hh⟩:=af hh
 try dsimp only at hh
 have fc:=kX hQ A
 try dsimp only at fc
 refine ag hF fc ?_
 cbv
 exact Eb
 rintro n ⟨d,j,o,p⟩ N1 D1 hh B C X
 try dsimp only at hh
 unfold ce.l0 at hh
 cbv
 refine bcs (fun b=>?_) (fun b=>?_)
 replace hh:=ifT hh b
 try rw[b]
 cbv
 obtain⟨D,hh⟩:=ac hh
 obtain⟨F,G,hh⟩:=af hh
 refine⟨[iA F],Nb D,Gb G,?_⟩
 cbv
 obtain⟨Y,H,hh⟩:=af hh
 refine ag hF (eK hQ H) ?_
 cbv
 obtain⟨Z,I,hh⟩:=af hh
 refine ag hF (eK hQ I) ?_
 cbv
 obtain⟨⟨⟨J,K⟩,Q⟩,L,hh⟩:=af hh
 try dsimp only at hh
 refine⟨Ob,?_⟩
 refine⟨Ob,?_⟩
 have fc:=hg3 L
 try dsimp only at fc
 refine ag hF fc ?_
 cbv
 obtain⟨ek,M,hh⟩:=af hh
 refine ag hF (bL hQ M) ?_
 cbv
 ·refine B (_,_,_,_) _ hh fun⟨z,U,V,W⟩ e=>?_
  refine ai ?_
  cbv
  all_goals exact J4
 replace hh:=ifF hh b
 try rw[b]
 cbv
 ·refine C _ _ hh fun z e=>?_
  refine ai ?_
  cbv
  all_goals exact J1
 have c:v=false:=Fb t
 have g:=c;cbv at g;try rw[c]
 try rw[g]
 cbv
 refine⟨3,?_⟩
 cbv
 exact Eb

theorem yN {k:Nat} {p0:Int} {p1:List GOcc} {p2:List GOcc} {r:(List GOcc)×Bool} (hh:kr.f k p0 p1 p2=some r):ak P 153 [iA p0,tA (qGOcc p1),tA (qGOcc p2)] [hA,hA,hA] (.tup [oA 3 (qGOccO r.1),bA r.2]):=by
 unfold kr.f at hh
 refine go (ts:=[(6,none),(7,none)]) (rm:=[.own,.own]) (pm:=[.skip,.skip,.skip]) Tryz.func153 ?_
 unhygienic intros
 cbv
 obtain⟨⟨b,c⟩,d,hh⟩:=af hh
 try dsimp only at hh
 have fc:=lS hQ (g3:=fun y0 y1 y2 y3=>aL.f k y0 y1 y2 y3) (fun h=>kF hQ h) d
 try dsimp only at fc
 refine ag hF fc ?_
 cbv
 exact Eb

theorem ma {k:Nat} {g3:aB→Int→(List GOcc)→(List GOcc)→Option (aB×(List GOcc))} (hg3:∀{y0:aB} {y1:Int} {y2:List GOcc} {y3:List GOcc} {r:aB×(List GOcc)},g3 y0 y1 y2 y3=some r→ak P 198 [.agg [tA (qGOcc y0.Left),tA (qGOcc y0.Right)],iA y1,tA (qGOcc y2),tA (qGOcc y3)] [hA,hA,hA,hA] (.tup [.agg [tA (qGOcc r.1.Left),tA (qGOcc r.1.Right)],tA (qGOcc r.2)])) {p0:Int} {p1:List GOcc} {p2:List GOcc} {r:(List GOcc)×Bool} (hh:ce.f g3 k p0 p1 p2=some r):ak P 196 [iA p0,tA (qGOcc p1),tA (qGOcc p2),.clo 198 []] [hA,hA,hA,hA] (.tup [oA 3 (qGOccO r.1),bA r.2]):=by
 unfold ce.f at hh
 refine go (ts:=[(8,none),(9,none)]) (rm:=[.own,.own]) (pm:=[.skip,.skip,.skip,.skip]) Tryz.func196 ?_
 unhygienic intros
 cbv
 obtain⟨v,R,hh⟩:=af hh
 refine⟨3,?_⟩
 cbv
 refine⟨3,?_⟩
 cbv
 have fc:=lZ hQ R
 try dsimp only at fc
 refine ag hF fc ?_
 cbv
 replace hh:=aG hh
 rcases hh with⟨t,hh⟩|⟨t,hh⟩
 have c:v=true:=Tb t
 have g:=c;cbv at g;try rw[c]
 try rw[g]
 cbv
 obtain⟨u,S,hh⟩:=af hh
 refine⟨Ob,?_⟩
 refine ag hF (kx hQ S) ?_
 cbv
 obtain⟨T,w,y⟩:=af hh
 refine ay hC eok mixed (fun n (i:(List GOcc)×(List GOcc)×(List GOcc)×Int)=>ce.l0 k g3 p0 p1 p2 u n i.1 i.2.1 i.2.2.1 i.2.2.2)
  (fun⟨d,j,o,p⟩=>(⟨[(0,iA p0),(1,tA (qGOcc p1)),(2,tA (qGOcc p2)),(3,.clo 198 []),(10,.mptr (10,0) 1 0 0),(11,tA (qGOcc o)),(25,tA (qInt u)),(26,iA (cast (len (qInt u)))),(27,iA p)],[((10,0),.box 1 [tA (qGOcc d),tA (qGOcc j)])]⟩:St))
  (fun(s:List GOcc)=>(⟨[(11,tA (qGOcc s))],[]⟩:St)) (fun x=>x) (.exit 0)
  (i0:=(_,_,_,_)) w (fun _=>rfl) ?_ ?_ ?_
 ·rintro⟨z,U,V,W⟩ e
  refine ai ?_
  cbv
  all_goals exact J4
 rintro s hx
 subst T
 have hh:=y
 cbv
 obtain⟨⟨N,O⟩,A,hh⟩:=af hh
 try dsimp only at hh
 have fc:=kX hQ A
 try dsimp only at fc
 refine ag hF fc ?_
 cbv
 exact Eb
 rintro n ⟨d,j,o,p⟩ N1 D1 hh B C X
 try dsimp only at hh
 unfold ce.l0 at hh
 cbv
 refine bcs (fun b=>?_) (fun b=>?_)
 replace hh:=ifT hh b
 try rw[b]
 cbv
 obtain⟨D,hh⟩:=ac hh
 obtain⟨F,G,hh⟩:=af hh
 refine⟨[iA F],Nb D,Gb G,?_⟩
 cbv
 obtain⟨Y,H,hh⟩:=af hh
 refine ag hF (eK hQ H) ?_
 cbv
 obtain⟨Z,I,hh⟩:=af hh
 refine ag hF (eK hQ I) ?_
 cbv
 obtain⟨⟨⟨J,K⟩,Q⟩,L,hh⟩:=af hh
 try dsimp only at hh
 refine⟨Ob,?_⟩
 refine⟨Ob,?_⟩
 have fc:=hg3 L
 try dsimp only at fc
 refine ag hF fc ?_
 cbv
 obtain⟨ek,M,hh⟩:=af hh
 refine ag hF (bL hQ M) ?_
 cbv
 ·refine B (_,_,_,_) _ hh fun⟨z,U,V,W⟩ e=>?_
  refine ai ?_
  cbv
  all_goals exact J4
 replace hh:=ifF hh b
 try rw[b]
 cbv
 ·refine C _ _ hh fun z e=>?_
  refine ai ?_
  cbv
  all_goals exact J1
 have c:v=false:=Fb t
 have g:=c;cbv at g;try rw[c]
 try rw[g]
 cbv
 refine⟨3,?_⟩
 cbv
 exact Eb

theorem xL {k:Nat} {p0:Int} {p1:List GOcc} {p2:List GOcc} {r:(List GOcc)×Bool} (hh:kI.f k p0 p1 p2=some r):ak P 154 [iA p0,tA (qGOcc p1),tA (qGOcc p2)] [hA,hA,hA] (.tup [oA 3 (qGOccO r.1),bA r.2]):=by
 unfold kI.f at hh
 refine go (ts:=[(6,none),(7,none)]) (rm:=[.own,.own]) (pm:=[.skip,.skip,.skip]) Tryz.func154 ?_
 unhygienic intros
 cbv
 obtain⟨⟨b,c⟩,d,hh⟩:=af hh
 try dsimp only at hh
 have fc:=ma hQ (g3:=fun y0 y1 y2 y3=>bM.f k y0 y1 y2 y3) (fun h=>kV hQ h) d
 try dsimp only at fc
 refine ag hF fc ?_
 cbv
 exact Eb

theorem xt {k:Nat} {p0:ax} {r:Bool} (hh:lM.f k p0=some r):ak P 228 [.agg [tA (qGOcc p0.Left),tA (qGOcc p0.Mid)]] [hA] (bA r):=by
 obtain⟨p0a,p0b⟩:=p0
 unfold lM.f at hh
 refine go (ts:=[(2,none)]) (rm:=[.own]) (pm:=[.skip]) Tryz.func228 ?_
 unhygienic intros
 cbv
 obtain⟨j,c,hh⟩:=af hh
 refine ag hF (cZ hQ c) ?_
 cbv
 refine bcs (fun b=>?_) (fun b=>?_)
 replace hh:=ifT hh b
 try rw[b]
 cbv
 obtain⟨o,d,hh⟩:=af hh
 refine ag hF (cZ hQ d) ?_
 cbv
 exact Eb
 replace hh:=ifF hh b
 try rw[b]
 cbv
 exact Eb

theorem uq {k:Nat} {p0:Int} {p1:ax} {p2:List GOcc} {p3:List GOcc} {p4:List GOcc} {r:Bool} (hh:gq.f k p0 p1 p2 p3 p4=some r):ak P 237 [iA p0,.agg [tA (qGOcc p1.Left),tA (qGOcc p1.Mid)],tA (qGOcc p2),tA (qGOcc p3),tA (qGOcc p4)] [hA,hA,hA,hA,hA] (bA r):=by
 obtain⟨p1a,p1b⟩:=p1
 unfold gq.f at hh
 refine go (ts:=[(10,none)]) (rm:=[.own]) (pm:=[.skip,.skip,.skip,.skip,.skip]) Tryz.func237 ?_
 unhygienic intros
 cbv
 obtain⟨z,t,hh⟩:=af hh
 refine ag hF (ix hQ t) ?_
 cbv
 refine bcs (fun j=>?_) (fun j=>?_)
 replace hh:=ifT hh j
 try rw[j]
 cbv
 obtain⟨A,u,hh⟩:=af hh
 refine ag hF (xt hQ u) ?_
 cbv
 refine bcs (fun b=>?_) (fun b=>?_)
 replace hh:=ifT hh b
 try rw[b]
 cbv
 obtain⟨v,o,hh⟩:=af hh
 refine ag hF (cZ hQ o) ?_
 cbv
 refine bcs (fun c=>?_) (fun c=>?_)
 replace hh:=ifT hh c
 try rw[c]
 cbv
 obtain⟨w,p,hh⟩:=af hh
 refine ag hF (cZ hQ p) ?_
 cbv
 refine bcs (fun d=>?_) (fun d=>?_)
 replace hh:=ifT hh d
 try rw[d]
 cbv
 obtain⟨y,s,hh⟩:=af hh
 refine ag hF (cZ hQ s) ?_
 cbv
 exact Eb
 replace hh:=ifF hh d
 try rw[d]
 cbv
 exact Eb
 replace hh:=ifF hh c
 try rw[c]
 cbv
 exact Eb
 replace hh:=ifF hh b
 try rw[b]
 cbv
 exact Eb
 replace hh:=ifF hh j
 try rw[j]
 cbv
 exact Eb
theorem mb {k:Nat} {p0:Int} {p1:ax} {p2:List GOcc} {p3:List GOcc} {p4:List GOcc} {r:Bool} (hh:gq.f k p0 p1 p2 p3 p4=some r):ak P 237 [iA p0,.agg [oA 3 (qGOccO p1.Left),oA 3 (qGOccO p1.Mid)],tA (qGOcc p2),tA (qGOcc p3),tA (qGOcc p4)] [hA,.agg [oA 3 (qGOccO p1.Left),oA 3 (qGOccO p1.Mid)],hA,hA,hA] (bA r):=by
  cases hQ;exact(uq .mk hh).lend (rfl) (.same rfl (.lend (by simp) (.same rfl (.same rfl (.same rfl .nil)))))

theorem ml {k:Nat} {g4:ax→Int→(List GOcc)→(List GOcc)→(List GOcc)→Option (ax×(List GOcc))} (hg4:∀{y0:ax} {y1:Int} {y2:List GOcc} {y3:List GOcc} {y4:List GOcc} {r:ax×(List GOcc)},g4 y0 y1 y2 y3 y4=some r→ak P 200 [.agg [tA (qGOcc y0.Left),tA (qGOcc y0.Mid)],iA y1,tA (qGOcc y2),tA (qGOcc y3),tA (qGOcc y4)] [hA,hA,hA,hA,hA] (.tup [.agg [tA (qGOcc r.1.Left),tA (qGOcc r.1.Mid)],tA (qGOcc r.2)])) {p0:Int} {p1:List GOcc} {p2:List GOcc} {p3:List GOcc} {r:(List GOcc)×Bool} (hh:ci.f g4 k p0 p1 p2 p3=some r):ak P 199 [iA p0,tA (qGOcc p1),tA (qGOcc p2),tA (qGOcc p3),.clo 200 []] [hA,hA,hA,hA,hA] (.tup [oA 3 (qGOccO r.1),bA r.2]):=by
 unfold ci.f at hh
 refine go (ts:=[(10,none),(11,none)]) (rm:=[.own,.own]) (pm:=[.skip,.skip,.skip,.skip,.skip]) Tryz.func199 ?_
 unhygienic intros
 cbv
 obtain⟨v,S,hh⟩:=af hh
 refine⟨3,?_⟩
 cbv
 refine⟨3,?_⟩
 cbv
 have fc:=mb hQ S
 try dsimp only at fc
 refine ag hF fc ?_
 cbv
 replace hh:=aG hh
 rcases hh with⟨t,hh⟩|⟨t,hh⟩
 have c:v=true:=Tb t
 have g:=c;cbv at g;try rw[c]
 try rw[g]
 cbv
 obtain⟨u,T,hh⟩:=af hh
 refine⟨Ob,?_⟩
 refine ag hF (kx hQ T) ?_
 cbv
 obtain⟨U,w,y⟩:=af hh
 refine ay hC eok mixed (fun n (i:(List GOcc)×(List GOcc)×(List GOcc)×Int)=>ci.l0 k g4 p0 p1 p2 p3 u n i.1 i.2.1 i.2.2.1 i.2.2.2)
  (fun⟨d,j,o,p⟩=>(⟨[(0,iA p0),(1,tA (qGOcc p1)),(2,tA (qGOcc p2)),(3,tA (qGOcc p3)),(4,.clo 200 []),(12,.mptr (12,0) 1 0 0),(13,tA (qGOcc o)),(29,tA (qInt u)),(30,iA (cast (len (qInt u)))),(31,iA p)],[((12,0),.box 1 [tA (qGOcc d),tA (qGOcc j)])]⟩:St))
  (fun(s:List GOcc)=>(⟨[(13,tA (qGOcc s))],[]⟩:St)) (fun x=>x) (.exit 0)
  (i0:=(_,_,_,_)) w (fun _=>rfl) ?_ ?_ ?_
 ·rintro⟨z,V,W,X⟩ e
  refine ai ?_
  cbv
  all_goals exact J4
 rintro s hx
 subst U
 have hh:=y
 cbv
 obtain⟨⟨O,Q⟩,A,hh⟩:=af hh
 try dsimp only at hh
 have fc:=kX hQ A
 try dsimp only at fc
 refine ag hF fc ?_
 cbv
 exact Eb
 rintro n ⟨d,j,o,p⟩ N1 D1 hh B C Y
 try dsimp only at hh
 unfold ci.l0 at hh
 cbv
 refine bcs (fun b=>?_) (fun b=>?_)
 replace hh:=ifT hh b
 try rw[b]
 cbv
 obtain⟨D,hh⟩:=ac hh
 obtain⟨F,G,hh⟩:=af hh
 refine⟨[iA F],Nb D,Gb G,?_⟩
 cbv
 obtain⟨Z,H,hh⟩:=af hh
 refine ag hF (eK hQ H) ?_
 cbv
 obtain⟨ek,I,hh⟩:=af hh
 refine ag hF (eK hQ I) ?_
 cbv
 obtain⟨EJ,J,hh⟩:=af hh
 refine ag hF (eK hQ J) ?_
 cbv
 obtain⟨⟨⟨K,L⟩,R⟩,M,hh⟩:=af hh
 try dsimp only at hh
 refine⟨Ob,?_⟩
 refine⟨Ob,?_⟩
 refine⟨Ob,?_⟩
 have fc:=hg4 M
 try dsimp only at fc
 refine ag hF fc ?_
 cbv
 obtain⟨E2,N,hh⟩:=af hh
 refine ag hF (bL hQ N) ?_
 cbv
 ·refine B (_,_,_,_) _ hh fun⟨z,V,W,X⟩ e=>?_
  refine ai ?_
  cbv
  all_goals exact J4
 replace hh:=ifF hh b
 try rw[b]
 cbv
 ·refine C _ _ hh fun z e=>?_
  refine ai ?_
  cbv
  all_goals exact J1
 have c:v=false:=Fb t
 have g:=c;cbv at g;try rw[c]
 try rw[g]
 cbv
 refine⟨3,?_⟩
 cbv
 exact Eb

theorem yn {k:Nat} {p0:Int} {p1:List GOcc} {p2:List GOcc} {p3:List GOcc} {r:(List GOcc)×Bool} (hh:ku.f k p0 p1 p2 p3=some r):ak P 155 [iA p0,tA (qGOcc p1),tA (qGOcc p2),tA (qGOcc p3)] [hA,hA,hA,hA] (.tup [oA 3 (qGOccO r.1),bA r.2]):=by
 unfold ku.f at hh
 refine go (ts:=[(8,none),(9,none)]) (rm:=[.own,.own]) (pm:=[.skip,.skip,.skip,.skip]) Tryz.func155 ?_
 unhygienic intros
 cbv
 obtain⟨⟨b,c⟩,d,hh⟩:=af hh
 try dsimp only at hh
 have fc:=ml hQ (g4:=fun y0 y1 y2 y3 y4=>bK.f k y0 y1 y2 y3 y4) (fun h=>kW hQ h) d
 try dsimp only at fc
 refine ag hF fc ?_
 cbv
 exact Eb

theorem lw {k:Nat} {g4:ax→Int→(List GOcc)→(List GOcc)→(List GOcc)→Option (ax×(List GOcc))} (hg4:∀{y0:ax} {y1:Int} {y2:List GOcc} {y3:List GOcc} {y4:List GOcc} {r:ax×(List GOcc)},g4 y0 y1 y2 y3 y4=some r→ak P 201 [.agg [tA (qGOcc y0.Left),tA (qGOcc y0.Mid)],iA y1,tA (qGOcc y2),tA (qGOcc y3),tA (qGOcc y4)] [hA,hA,hA,hA,hA] (.tup [.agg [tA (qGOcc r.1.Left),tA (qGOcc r.1.Mid)],tA (qGOcc r.2)])) {p0:Int} {p1:List GOcc} {p2:List GOcc} {p3:List GOcc} {r:(List GOcc)×Bool} (hh:ci.f g4 k p0 p1 p2 p3=some r):ak P 199 [iA p0,tA (qGOcc p1),tA (qGOcc p2),tA (qGOcc p3),.clo 201 []] [hA,hA,hA,hA,hA] (.tup [oA 3 (qGOccO r.1),bA r.2]):=by
 unfold ci.f at hh
 refine go (ts:=[(10,none),(11,none)]) (rm:=[.own,.own]) (pm:=[.skip,.skip,.skip,.skip,.skip]) Tryz.func199 ?_
 unhygienic intros
 cbv
 obtain⟨v,S,hh⟩:=af hh
 refine⟨3,?_⟩
 cbv
 refine⟨3,?_⟩
 cbv
 have fc:=mb hQ S
 try dsimp only at fc
 refine ag hF fc ?_
 cbv
 replace hh:=aG hh
 rcases hh with⟨t,hh⟩|⟨t,hh⟩
 have c:v=true:=Tb t
 have g:=c;cbv at g;try rw[c]
 try rw[g]
 cbv
 obtain⟨u,T,hh⟩:=af hh
 refine⟨Ob,?_⟩
 refine ag hF (kx hQ T) ?_
 cbv
 obtain⟨U,w,y⟩:=af hh
 refine ay hC eok mixed (fun n (i:(List GOcc)×(List GOcc)×(List GOcc)×Int)=>ci.l0 k g4 p0 p1 p2 p3 u n i.1 i.2.1 i.2.2.1 i.2.2.2)
  (fun⟨d,j,o,p⟩=>(⟨[(0,iA p0),(1,tA (qGOcc p1)),(2,tA (qGOcc p2)),(3,tA (qGOcc p3)),(4,.clo 201 []),(12,.mptr (12,0) 1 0 0),(13,tA (qGOcc o)),(29,tA (qInt u)),(30,iA (cast (len (qInt u)))),(31,iA p)],[((12,0),.box 1 [tA (qGOcc d),tA (qGOcc j)])]⟩:St))
  (fun(s:List GOcc)=>(⟨[(13,tA (qGOcc s))],[]⟩:St)) (fun x=>x) (.exit 0)
  (i0:=(_,_,_,_)) w (fun _=>rfl) ?_ ?_ ?_
 ·rintro⟨z,V,W,X⟩ e
  refine ai ?_
  cbv
  all_goals exact J4
 rintro s hx
 subst U
 have hh:=y
 cbv
 obtain⟨⟨O,Q⟩,A,hh⟩:=af hh
 try dsimp only at hh
 have fc:=kX hQ A
 try dsimp only at fc
 refine ag hF fc ?_
 cbv
 exact Eb
 rintro n ⟨d,j,o,p⟩ N1 D1 hh B C Y
 try dsimp only at hh
 unfold ci.l0 at hh
 cbv
 refine bcs (fun b=>?_) (fun b=>?_)
 replace hh:=ifT hh b
 try rw[b]
 cbv
 obtain⟨D,hh⟩:=ac hh
 obtain⟨F,G,hh⟩:=af hh
 refine⟨[iA F],Nb D,Gb G,?_⟩
 cbv
 obtain⟨Z,H,hh⟩:=af hh
 refine ag hF (eK hQ H) ?_
 cbv
 obtain⟨ek,I,hh⟩:=af hh
 refine ag hF (eK hQ I) ?_
 cbv
 obtain⟨EJ,J,hh⟩:=af hh
 refine ag hF (eK hQ J) ?_
 cbv
 obtain⟨⟨⟨K,L⟩,R⟩,M,hh⟩:=af hh
 try dsimp only at hh
 refine⟨Ob,?_⟩
 refine⟨Ob,?_⟩
 refine⟨Ob,?_⟩
 have fc:=hg4 M
 try dsimp only at fc
 refine ag hF fc ?_
 cbv
 obtain⟨E2,N,hh⟩:=af hh
 refine ag hF (bL hQ N) ?_
 cbv
 ·refine B (_,_,_,_) _ hh fun⟨z,V,W,X⟩ e=>?_
  refine ai ?_
  cbv
  all_goals exact J4
 replace hh:=ifF hh b
 try rw[b]
 cbv
 ·refine C _ _ hh fun z e=>?_
  refine ai ?_
  cbv
  all_goals exact J1
 have c:v=false:=Fb t
 have g:=c;cbv at g;try rw[c]
 try rw[g]
 cbv
 refine⟨3,?_⟩
 cbv
 exact Eb

theorem xb {k:Nat} {p0:Int} {p1:List GOcc} {p2:List GOcc} {p3:List GOcc} {r:(List GOcc)×Bool} (hh:jK.f k p0 p1 p2 p3=some r):ak P 156 [iA p0,tA (qGOcc p1),tA (qGOcc p2),tA (qGOcc p3)] [hA,hA,hA,hA] (.tup [oA 3 (qGOccO r.1),bA r.2]):=by
 unfold jK.f at hh
 refine go (ts:=[(8,none),(9,none)]) (rm:=[.own,.own]) (pm:=[.skip,.skip,.skip,.skip]) Tryz.func156 ?_
 unhygienic intros
 cbv
 obtain⟨⟨b,c⟩,d,hh⟩:=af hh
 try dsimp only at hh
 have fc:=lw hQ (g4:=fun y0 y1 y2 y3 y4=>bH.f k y0 y1 y2 y3 y4) (fun h=>jY hQ h) d
 try dsimp only at fc
 refine ag hF fc ?_
 cbv
 exact Eb

theorem AQ {p0:List GEv} {r:Int} (hh:qa.f p0=some r):ak P 142 [tA (qGEv p0)] [hA] (iA r):=by
 unfold qa.f at hh
 refine go (ts:=[(2,none)]) (rm:=[.own]) (pm:=[.skip]) Tryz.func142 ?_
 unhygienic intros
 cbv
 refine bcs (fun b=>?_) (fun b=>?_)
 replace hh:=ifT hh b
 try rw[b]
 cbv
 exact Eb
 replace hh:=ifF hh b
 try rw[b]
 cbv
 obtain⟨o,hh⟩:=ac hh
 obtain⟨⟨c,d,j⟩,p,hh⟩:=af hh
 try dsimp only at hh
 refine⟨[iA c,iA d,iA j],Nb o,Gb p,?_⟩
 cbv
 exact Eb

theorem xp {k:Nat} {p0:List GOcc} {p1:Int} {p2:Int} {r:(List GOcc)×Bool} (hh:cC.f k p0 p1 p2=some r):ak P 157 [tA (qGOcc p0),iA p1,iA p2] [hA,hA,hA] (.tup [oA 3 (qGOccO r.1),bA r.2]):=by
 unfold cC.f at hh
 refine go (ts:=[(6,none),(7,none)]) (rm:=[.own,.own]) (pm:=[.skip,.skip,.skip]) Tryz.func157 ?_
 unhygienic intros
 cbv
 obtain⟨I,U,hh⟩:=af hh
 refine ag hF (cZ hQ U) ?_
 cbv
 replace hh:=aG hh
 rcases hh with⟨D,hh⟩|⟨D,hh⟩
 have t:I=true:=Tb D
 have g:=t;cbv at g;try rw[t]
 try rw[g]
 cbv
 obtain⟨J,V,hh⟩:=af hh
 refine ag hF (fR hQ V) ?_
 cbv
 replace hh:=aG hh
 rcases hh with⟨F,hh⟩|⟨F,hh⟩
 have c:J=true:=Tb F
 have g:=c;cbv at g;try rw[c]
 try rw[g]
 cbv
 obtain⟨W,K,L⟩:=af hh
 refine ay hC eok mixed (fun n (i:(List GOcc)×Int)=>cC.l0 k p0 p1 p2 n i.1 i.2)
  (fun⟨u,C⟩=>(⟨[(1,iA p1),(2,iA p2),(8,.ref (8,50) 1 0 (len (qGOccO u))),(19,tA (qGOcc p0)),(20,iA (cast (len (qGOcc p0)))),(21,iA C)],[((8,50),.arr 1 3 (qGOccO u))]⟩:St))
  (fun(v:List GOcc)=>(⟨[(8,.ref (8,50) 1 0 (len (qGOccO v)))],[((8,50),.arr 1 3 (qGOccO v))]⟩:St)) (fun x=>x) (.exit 0)
  (i0:=(_,_)) K (fun _=>rfl) ?_ ?_ ?_
 ·rintro⟨w,B⟩ e
  refine aq [] ?_
  cbv
  all_goals exact J2
 rintro v hx
 subst W
 have hh:=L
 cbv
 exact Eb
 rintro n ⟨u,C⟩ N1 D1 hh s M E3
 try dsimp only at hh
 unfold cC.l0 at hh
 cbv
 refine bcs (fun d=>?_) (fun d=>?_)
 replace hh:=ifT hh d
 try rw[d]
 cbv
 obtain⟨N,hh⟩:=ac hh
 obtain⟨⟨G,b,H⟩,O,hh⟩:=af hh
 try dsimp only at hh
 refine⟨[iA G,iA b,tA (qInt H)],Nb N,Gb O,?_⟩
 cbv
 replace hh:=aG hh
 rcases hh with⟨y,hh⟩|⟨y,hh⟩
 have j:(lt 2000 p2)=true:=Tb y
 have g:=j;cbv at g;try rw[j]
 try rw[g]
 cbv
 replace hh:=aG hh
 rcases hh with⟨z,hh⟩|⟨z,hh⟩
 have o:(lt 2000 (wrap .i64 (add b p1)))=true:=Tb z
 have g:=o;cbv at g;try rw[o]
 try rw[g]
 cbv
 ·refine s (_,_) _ hh fun⟨w,B⟩ e=>?_
  refine ai ?_
  cbv
  all_goals exact J2
 have o:(lt 2000 (wrap .i64 (add b p1)))=false:=Fb z
 have g:=o;cbv at g;try rw[o]
 try rw[g]
 cbv
 obtain⟨⟨X,Y,Z⟩,Q,hh⟩:=af hh
 try dsimp only at hh
 have fc:=kM hQ Q
 try dsimp only at fc
 refine ag hF fc ?_
 cbv
 obtain⟨R,hh⟩:=ac hh
 refine⟨⟨Ob,Ab⟩,?_⟩
 refine⟨⟨Ob,Wb R⟩,?_⟩
 ·refine s (_,_) _ hh fun⟨w,B⟩ e=>?_
  refine aq [((8,50),(37,0))] ?_
  cbv
  all_goals exact J2
 have j:(lt 2000 p2)=false:=Fb y
 have g:=j;cbv at g;try rw[j]
 try rw[g]
 cbv
 replace hh:=aG hh
 rcases hh with⟨A,hh⟩|⟨A,hh⟩
 have p:(lt p2 (wrap .i64 (add b p1)))=true:=Tb A
 have g:=p;cbv at g;try rw[p]
 try rw[g]
 cbv
 ·refine s (_,_) _ hh fun⟨w,B⟩ e=>?_
  refine ai ?_
  cbv
  all_goals exact J2
 have p:(lt p2 (wrap .i64 (add b p1)))=false:=Fb A
 have g:=p;cbv at g;try rw[p]
 try rw[g]
 cbv
 obtain⟨⟨ek,EJ,E2⟩,S,hh⟩:=af hh
 try dsimp only at hh
 have fc:=kM hQ S
 try dsimp only at fc
 refine ag hF fc ?_
 cbv
 obtain⟨T,hh⟩:=ac hh
 refine⟨⟨Ob,Ab⟩,?_⟩
 refine⟨⟨Ob,Wb T⟩,?_⟩
 ·refine s (_,_) _ hh fun⟨w,B⟩ e=>?_
  refine aq [((8,50),(37,0))] ?_
  cbv
  all_goals exact J2
 replace hh:=ifF hh d
 try rw[d]
 cbv
 ·refine M _ _ hh fun w e=>?_
  refine ai ?_
  cbv
  all_goals exact J1
 have c:J=false:=Fb F
 have g:=c;cbv at g;try rw[c]
 try rw[g]
 cbv
 refine⟨3,?_⟩
 cbv
 exact Eb
 have t:I=false:=Fb D
 have g:=t;cbv at g;try rw[t]
 try rw[g]
 cbv
 refine⟨3,?_⟩
 cbv
 exact Eb

theorem EV:∀k:Nat,(∀{p0:GEx} {p1:Int} {p2:List GEv} {r:(List GOcc)×Bool},aV.f k p0 p1 p2=some r→ak P 96 [.agg [iA p0.Kind,iA p0.Sym,iA p0.N,tA (qGEx p0.Kids)],iA p1,tA (qGEv p2)] [hA,hA,hA] (.tup [oA 3 (qGOccO r.1),bA r.2])):=by
  intro k
  induction k using Nat.strongRecOn with
  |_ k ih=>
  · intro p0 p1 p2 r hh
    cases k with
    |zero=>unfold aV.f at hh;cases hh
    |succ k=>
    obtain⟨p0a,p0b,p0c,p0d⟩:=p0
    unfold aV.f at hh
    refine go (ts:=[(6,none),(7,none)]) (rm:=[.own,.own]) (pm:=[.skip,.skip,.skip]) Tryz.func96 ?_
    unhygienic intros
    cbv
    obtain⟨T,D,A⟩:=af hh
    refine ay hC eok mixed (fun n (i:(List (List GOcc))×Int)=>aV.l0 k (aV.f k) (⟨p0a,p0b,p0c,p0d⟩:GEx) p1 p2 n i.1 i.2)
     (fun⟨F,R⟩=>(⟨[(1,iA p1),(2,tA (qGEv p2)),(3,.mptr (3,0) 1 0 0),(8,.ref (8,50) 1 0 (len (qLGOcc F))),(17,tA (qGEx p0d)),(18,iA (cast (len (qGEx p0d)))),(19,iA R)],[((3,0),.box 1 [iA p0a,iA p0b,iA p0c,tA (qGEx p0d)]),((8,50),.arr 1 1 (qLGOcc F))]⟩:St))
     (fun(G:List (List GOcc))=>(⟨[(1,iA p1),(2,tA (qGEv p2)),(3,.mptr (3,0) 1 0 0),(8,.ref (8,50) 1 0 (len (qLGOcc G)))],[((3,0),.box 1 [iA p0a,iA p0b,iA p0c,tA (qGEx p0d)]),((8,50),.arr 1 1 (qLGOcc G))]⟩:St)) .ok (.exit 0)
     (i0:=(_,_)) D (fun _=>rfl) ?_ ?_ ?_
    ·rintro⟨C,K⟩ e
     refine aq [((3,0),(3,0))] ?_
     cbv
     all_goals exact J2
    rintro G hx
    subst T
    have hh:=A
    cbv
    refine bcs (fun o=>?_) (fun o=>?_)
    replace hh:=ifT hh o
    try rw[o]
    cbv
    obtain⟨FA,hh⟩:=ac hh
    obtain⟨FB,hh⟩:=ac hh
    refine⟨Nb FA,Mb FB,?_⟩
    obtain⟨FE,FH,hh⟩:=af hh
    refine⟨[tA (qGOcc FE)],Gb FH,?_⟩
    cbv
    obtain⟨FI,hh⟩:=ac hh
    obtain⟨FJ,hh⟩:=ac hh
    refine⟨Nb FI,Mb FJ,?_⟩
    obtain⟨FM,FN,hh⟩:=af hh
    refine⟨[tA (qGOcc FM)],Gb FN,?_⟩
    cbv
    obtain⟨⟨GM,GN⟩,FR,hh⟩:=af hh
    try dsimp only at hh
    have fc:=Ad hQ FR
    try dsimp only at fc
    refine ag hF fc ?_
    cbv
    exact Eb
    replace hh:=ifF hh o
    try rw[o]
    cbv
    refine bcs (fun p=>?_) (fun p=>?_)
    replace hh:=ifT hh p
    try rw[p]
    cbv
    obtain⟨FT,hh⟩:=ac hh
    obtain⟨FW,hh⟩:=ac hh
    refine⟨Nb FT,Mb FW,?_⟩
    obtain⟨F4,F5,hh⟩:=af hh
    refine⟨[tA (qGOcc F4)],Gb F5,?_⟩
    cbv
    obtain⟨F6,hh⟩:=ac hh
    obtain⟨F7,hh⟩:=ac hh
    refine⟨Nb F6,Mb F7,?_⟩
    obtain⟨F8,F9,hh⟩:=af hh
    refine⟨[tA (qGOcc F8)],Gb F9,?_⟩
    cbv
    obtain⟨⟨GO,GP⟩,Ga,hh⟩:=af hh
    try dsimp only at hh
    have fc:=yN hQ Ga
    try dsimp only at fc
    refine ag hF fc ?_
    cbv
    exact Eb
    replace hh:=ifF hh p
    try rw[p]
    cbv
    refine bcs (fun s=>?_) (fun s=>?_)
    replace hh:=ifT hh s
    try rw[s]
    cbv
    obtain⟨Gc,hh⟩:=ac hh
    obtain⟨Gd,hh⟩:=ac hh
    refine⟨Nb Gc,Mb Gd,?_⟩
    obtain⟨Ge,Gf,hh⟩:=af hh
    refine⟨[tA (qGOcc Ge)],Gb Gf,?_⟩
    cbv
    obtain⟨Gg,hh⟩:=ac hh
    obtain⟨Gh,hh⟩:=ac hh
    refine⟨Nb Gg,Mb Gh,?_⟩
    obtain⟨Gi,Gj,hh⟩:=af hh
    refine⟨[tA (qGOcc Gi)],Gb Gj,?_⟩
    cbv
    obtain⟨⟨GQ,GR⟩,Gk,hh⟩:=af hh
    try dsimp only at hh
    have fc:=xL hQ Gk
    try dsimp only at fc
    refine ag hF fc ?_
    cbv
    exact Eb
    replace hh:=ifF hh s
    try rw[s]
    cbv
    refine bcs (fun t=>?_) (fun t=>?_)
    replace hh:=ifT hh t
    try rw[t]
    cbv
    obtain⟨Gl,hh⟩:=ac hh
    obtain⟨Gm,hh⟩:=ac hh
    refine⟨Nb Gl,Mb Gm,?_⟩
    obtain⟨Gn,Gp,hh⟩:=af hh
    refine⟨[tA (qGOcc Gn)],Gb Gp,?_⟩
    cbv
    obtain⟨Gq,hh⟩:=ac hh
    obtain⟨Gr,hh⟩:=ac hh
    refine⟨Nb Gq,Mb Gr,?_⟩
    obtain⟨Gs,Gt,hh⟩:=af hh
    refine⟨[tA (qGOcc Gs)],Gb Gt,?_⟩
    cbv
    obtain⟨Gu,hh⟩:=ac hh
    obtain⟨Gv,hh⟩:=ac hh
    refine⟨Nb Gu,Mb Gv,?_⟩
    obtain⟨Gw,Gx,hh⟩:=af hh
    refine⟨[tA (qGOcc Gw)],Gb Gx,?_⟩
    cbv
    obtain⟨⟨GS,GT⟩,Gy,hh⟩:=af hh
    try dsimp only at hh
    have fc:=yn hQ Gy
    try dsimp only at fc
    refine ag hF fc ?_
    cbv
    exact Eb
    replace hh:=ifF hh t
    try rw[t]
    cbv
    refine bcs (fun u=>?_) (fun u=>?_)
    replace hh:=ifT hh u
    try rw[u]
    cbv
    obtain⟨Gz,hh⟩:=ac hh
    obtain⟨GA,hh⟩:=ac hh
    refine⟨Nb Gz,Mb GA,?_⟩
    obtain⟨GB,GC,hh⟩:=af hh
    refine⟨[tA (qGOcc GB)],Gb GC,?_⟩
    cbv
    obtain⟨GD,hh⟩:=ac hh
    obtain⟨U,hh⟩:=ac hh
    refine⟨Nb GD,Mb U,?_⟩
    obtain⟨V,W,hh⟩:=af hh
    refine⟨[tA (qGOcc V)],Gb W,?_⟩
    cbv
    obtain⟨X,hh⟩:=ac hh
    obtain⟨Y,hh⟩:=ac hh
    refine⟨Nb X,Mb Y,?_⟩
    obtain⟨Z,ek,hh⟩:=af hh
    refine⟨[tA (qGOcc Z)],Gb ek,?_⟩
    cbv
    obtain⟨⟨GE,GF⟩,EJ,hh⟩:=af hh
    try dsimp only at hh
    have fc:=xb hQ EJ
    try dsimp only at fc
    refine ag hF fc ?_
    cbv
    exact Eb
    replace hh:=ifF hh u
    try rw[u]
    cbv
    refine bcs (fun b=>?_) (fun b=>?_)
    replace hh:=ifT hh b
    try rw[b]
    cbv
    obtain⟨E2,hh⟩:=ac hh
    obtain⟨E3,hh⟩:=ac hh
    refine⟨Nb E2,Mb E3,?_⟩
    obtain⟨Ff,Fj,hh⟩:=af hh
    refine⟨[tA (qGOcc Ff)],Gb Fj,?_⟩
    cbv
    obtain⟨GU,Fk,hh⟩:=af hh
    refine ag hF (AQ hQ Fk) ?_
    cbv
    obtain⟨⟨GG,GH⟩,Fm,hh⟩:=af hh
    try dsimp only at hh
    have fc:=xp hQ Fm
    try dsimp only at fc
    refine ag hF fc ?_
    cbv
    exact Eb
    replace hh:=ifF hh b
    try rw[b]
    cbv
    obtain⟨T,D,A⟩:=af hh
    refine ay hC eok mixed (fun n (i:(List GOcc)×Int)=>aV.l1 k (⟨p0a,p0b,p0c,p0d⟩:GEx) p2 n i.1 i.2)
     (fun⟨y,H⟩=>(⟨[(3,.mptr (3,0) 1 0 0),(13,.ref (13,50) 1 0 (len (qGOccO y))),(116,tA (qGEv p2)),(117,iA (cast (len (qGEv p2)))),(118,iA H)],[((3,0),.box 1 [iA p0a,iA p0b,iA p0c,tA (qGEx p0d)]),((13,50),.arr 1 3 (qGOccO y))]⟩:St))
     (fun(z:List GOcc)=>(⟨[(13,.ref (13,50) 1 0 (len (qGOccO z)))],[((13,50),.arr 1 3 (qGOccO z))]⟩:St)) (fun x=>x) (.exit 3)
     (i0:=(_,_)) D (fun _=>rfl) ?_ ?_ ?_
    ·rintro⟨C,K⟩ e
     refine aq [((3,0),(3,0))] ?_
     cbv
     all_goals exact J2
    rintro z hx
    subst T
    have hh:=A
    cbv
    exact Eb
    rintro n ⟨y,H⟩ N1 D1 hh B I S
    try dsimp only at hh
    unfold aV.l1 at hh
    cbv
    refine bcs (fun c=>?_) (fun c=>?_)
    replace hh:=ifT hh c
    try rw[c]
    cbv
    obtain⟨Fo,hh⟩:=ac hh
    obtain⟨⟨L,M,O⟩,Fp,hh⟩:=af hh
    try dsimp only at hh
    refine⟨[iA L,iA M,iA O],Nb Fo,Gb Fp,?_⟩
    cbv
    refine bcs (fun d=>?_) (fun d=>?_)
    replace hh:=ifT hh d
    try rw[d]
    cbv
    refine⟨Ob,?_⟩
    obtain⟨Fq,hh⟩:=ac hh
    refine⟨⟨Ob,Ab⟩,?_⟩
    refine⟨⟨Ob,Wb Fq⟩,?_⟩
    ·refine B (_,_) _ hh fun⟨C,K⟩ e=>?_
     refine aq [((3,0),(3,0)),((13,50),(137,0))] ?_
     cbv
     all_goals exact J2
    replace hh:=ifF hh d
    try rw[d]
    cbv
    ·refine B (_,_) _ hh fun⟨C,K⟩ e=>?_
     refine ai ?_
     cbv
     all_goals exact J2
    replace hh:=ifF hh c
    try rw[c]
    cbv
    ·refine I _ _ hh fun C e=>?_
     refine ai ?_
     cbv
     all_goals exact J1
    rintro n ⟨F,R⟩ N1 D1 hh B I S
    try dsimp only at hh
    unfold aV.l0 at hh
    cbv
    refine bcs (fun v=>?_) (fun v=>?_)
    replace hh:=ifT hh v
    try rw[v]
    cbv
    obtain⟨GI,hh⟩:=ac hh
    obtain⟨⟨Fr,Fu,Fx,Fz⟩,GJ,hh⟩:=af hh
    try dsimp only at hh
    refine⟨[iA Fr,iA Fu,iA Fx,tA (qGEx Fz)],Nb GI,Gb GJ,?_⟩
    cbv
    obtain⟨⟨Q,j⟩,GK,hh⟩:=af hh
    try dsimp only at hh
    have fc:=ak.frz (r':=.tup [tA (qGOcc Q),bA j]) ((ih k (Nat.lt_succ_self k)) GK) (by cases hQ;simp)
    try dsimp only at fc
    refine ag hF fc ?_
    cbv
    replace hh:=aG hh
    rcases hh with⟨J,hh⟩|⟨J,hh⟩
    have w:j=true:=Tb J
    have g:=w;cbv at g;try rw[w]
    try rw[g]
    cbv
    obtain⟨GL,hh⟩:=ac hh
    refine⟨⟨Ob,Ab⟩,?_⟩
    refine⟨⟨Ob,Wb GL⟩,?_⟩
    ·refine B (_,_) _ hh fun⟨C,K⟩ e=>?_
     refine aq [((3,0),(3,0)),((8,50),(35,0))] ?_
     cbv
     all_goals exact J2
    have w:j=false:=Fb J
    have g:=w;cbv at g;try rw[w]
    try rw[g]
    cbv
    cases hh
    have hh:some _=some _:=A
    refine S _ _ ?_
    cbv
    refine⟨3,?_⟩
    cbv
    exact Eb
    replace hh:=ifF hh v
    try rw[v]
    cbv
    ·refine I _ _ hh fun C e=>?_
     refine ai ?_
     cbv
     all_goals exact J1
theorem vk {k:Nat} {p0:GEx} {p1:Int} {p2:List GEv} {r:(List GOcc)×Bool} (hh:aV.f k p0 p1 p2=some r):ak P 96 [.agg [iA p0.Kind,iA p0.Sym,iA p0.N,tA (qGEx p0.Kids)],iA p1,tA (qGEv p2)] [hA,hA,hA] (.tup [oA 3 (qGOccO r.1),bA r.2]):=(EV hQ k) hh


theorem xy {k:Nat} {p0:GEx} {p1:Int} {p2:List GEv} {r:(List GOcc)×Bool} (hh:iG.f k p0 p1 p2=some r):ak P 41 [.agg [iA p0.Kind,iA p0.Sym,iA p0.N,tA (qGEx p0.Kids)],iA p1,tA (qGEv p2)] [hA,hA,hA] (.tup [oA 3 (qGOccO r.1),bA r.2]):=by
 obtain⟨p0a,p0b,p0c,p0d⟩:=p0
 unfold iG.f at hh
 refine go (ts:=[(6,none),(7,none)]) (rm:=[.own,.own]) (pm:=[.skip,.skip,.skip]) Tryz.func41 ?_
 unhygienic intros
 cbv
 obtain⟨t,A,hh⟩:=af hh
 refine ag hF (oj hQ A) ?_
 cbv
 replace hh:=aG hh
 rcases hh with⟨p,hh⟩|⟨p,hh⟩
 have d:t=true:=Tb p
 have g:=d;cbv at g;try rw[d]
 try rw[g]
 cbv
 obtain⟨u,B,hh⟩:=af hh
 refine ag hF (ix hQ B) ?_
 cbv
 replace hh:=aG hh
 rcases hh with⟨s,hh⟩|⟨s,hh⟩
 have b:u=true:=Tb s
 have g:=b;cbv at g;try rw[b]
 try rw[g]
 cbv
 obtain⟨o,v,hh⟩:=af hh
 refine ag hF (qU hQ v) ?_
 cbv
 replace hh:=aG hh
 rcases hh with⟨j,hh⟩|⟨j,hh⟩
 have c:o=true:=Tb j
 have g:=c;cbv at g;try rw[c]
 try rw[g]
 cbv
 obtain⟨⟨y,z⟩,w,hh⟩:=af hh
 try dsimp only at hh
 have fc:=vk hQ w
 try dsimp only at fc
 refine ag hF fc ?_
 cbv
 exact Eb
 have c:o=false:=Fb j
 have g:=c;cbv at g;try rw[c]
 try rw[g]
 cbv
 refine⟨3,?_⟩
 cbv
 exact Eb
 have b:u=false:=Fb s
 have g:=b;cbv at g;try rw[b]
 try rw[g]
 cbv
 refine⟨3,?_⟩
 cbv
 exact Eb
 have d:t=false:=Fb p
 have g:=d;cbv at g;try rw[d]
 try rw[g]
 cbv
 refine⟨3,?_⟩
 cbv
 exact Eb
theorem qt {k:Nat} {p0:GEx} {p1:Int} {p2:List GEv} {r:(List GOcc)×Bool} (hh:iG.f k p0 p1 p2=some r):ak P 41 [.agg [iA p0.Kind,iA p0.Sym,iA p0.N,oA 4 (qGExO p0.Kids)],iA p1,oA 3 (qGEv p2)] [.agg [iA p0.Kind,iA p0.Sym,iA p0.N,oA 4 (qGExO p0.Kids)],hA,oA 3 (qGEv p2)] (.tup [oA 3 (qGOccO r.1),bA r.2]):=by
  cases hQ;exact(xy .mk hh).lend (by simp[Vm.ownd,gm, -jG,kG]) (.lend (by simp) (.same rfl (.lend (congrArg A.tree (pX _).symm) .nil)))

theorem qg {p0:Int} {r:Bool} (hh:gC.f p0=some r):ak P 79 [iA p0] [hA] (bA r):=by
 unfold gC.f at hh
 refine go (ts:=[(2,none)]) (rm:=[.own]) (pm:=[.skip]) Tryz.func79 ?_
 unhygienic intros
 cbv
 replace hh:=aG hh
 rcases hh with⟨c,hh⟩|⟨c,hh⟩
 have b:(lt p0 0)=true:=Tb c
 have g:=b;cbv at g;try rw[b]
 try rw[g]
 cbv
 exact Eb
 have b:(lt p0 0)=false:=Fb c
 have g:=b;cbv at g;try rw[b]
 try rw[g]
 cbv
 exact Eb

theorem z7 {p0:GEv} {r:Bool} (hh:mn.f p0=some r):ak P 67 [.agg [iA p0.Sym,iA p0.At,iA p0.Val]] [hA] (bA r):=by
 obtain⟨p0a,p0b,p0c⟩:=p0
 unfold mn.f at hh
 refine go (ts:=[(2,none)]) (rm:=[.own]) (pm:=[.skip]) Tryz.func67 ?_
 unhygienic intros
 cbv
 replace hh:=aG hh
 rcases hh with⟨p,hh⟩|⟨p,hh⟩
 have c:(lt p0a 0)=true:=Tb p
 have g:=c;cbv at g;try rw[c]
 try rw[g]
 cbv
 exact Eb
 have c:(lt p0a 0)=false:=Fb p
 have g:=c;cbv at g;try rw[c]
 try rw[g]
 cbv
 refine bcs (fun d=>?_) (fun d=>?_)
 replace hh:=ifT hh d
 try rw[d]
 cbv
 replace hh:=aG hh
 rcases hh with⟨s,hh⟩|⟨s,hh⟩
 have j:(lt p0b 1)=true:=Tb s
 have g:=j;cbv at g;try rw[j]
 try rw[g]
 cbv
 exact Eb
 have j:(lt p0b 1)=false:=Fb s
 have g:=j;cbv at g;try rw[j]
 try rw[g]
 cbv
 replace hh:=aG hh
 rcases hh with⟨t,hh⟩|⟨t,hh⟩
 have o:(lt 1000 p0b)=true:=Tb t
 have g:=o;cbv at g;try rw[o]
 try rw[g]
 cbv
 exact Eb
 have o:(lt 1000 p0b)=false:=Fb t
 have g:=o;cbv at g;try rw[o]
 try rw[g]
 cbv
 replace hh:=aG hh
 rcases hh with⟨u,hh⟩|⟨u,hh⟩
 have b:(lt p0c 0)=true:=Tb u
 have g:=b;cbv at g;try rw[b]
 try rw[g]
 cbv
 exact Eb
 have b:(lt p0c 0)=false:=Fb u
 have g:=b;cbv at g;try rw[b]
 try rw[g]
 cbv
 exact Eb
 replace hh:=ifF hh d
 try rw[d]
 cbv
 exact Eb

theorem zx {k:Nat} {p0:List GEv} {r:Bool} (hh:dG.f k p0=some r):ak P 25 [tA (qGEv p0)] [hA] (bA r):=by
 unfold dG.f at hh
 refine go (ts:=[(2,none)]) (rm:=[.own]) (pm:=[.skip]) Tryz.func25 ?_
 unhygienic intros
 cbv
 refine bcs (fun s=>?_) (fun s=>?_)
 replace hh:=ifT hh s
 try rw[s]
 cbv
 exact Eb
 replace hh:=ifF hh s
 try rw[s]
 cbv
 obtain⟨U,J,t⟩:=af hh
 refine ay hC eok mixed (dG.l0 k p0)
  (fun w=>(⟨[(0,tA (qGEv p0)),(3,iA w)],[]⟩:St))
  (fun(_:Unit)=>(⟨[],[]⟩:St)) .ok (.exit 0)
  (i0:=_) J (fun _=>rfl) ?_ ?_ ?_
 ·rintro K e
  refine ai ?_
  cbv
  all_goals exact J1
 rintro _ hx
 subst U
 have hh:=t
 cbv
 exact Eb
 rintro n w V W hh y L z
 unfold dG.l0 at hh
 cbv
 refine bcs (fun b=>?_) (fun b=>?_)
 replace hh:=ifT hh b
 try rw[b]
 cbv
 obtain⟨M,hh⟩:=ac hh
 obtain⟨⟨B,C,D⟩,N,hh⟩:=af hh
 try dsimp only at hh
 refine⟨[iA B,iA C,iA D],Nb M,Gb N,?_⟩
 cbv
 obtain⟨A,O,hh⟩:=af hh
 refine ag hF (z7 hQ O) ?_
 cbv
 replace hh:=aG hh
 rcases hh with⟨u,hh⟩|⟨u,hh⟩
 have c:A=true:=Tb u
 have g:=c;cbv at g;try rw[c]
 try rw[g]
 cbv
 refine bcs (fun d=>?_) (fun d=>?_)
 replace hh:=ifT hh d
 try rw[d]
 cbv
 obtain⟨Q,hh⟩:=ac hh
 obtain⟨⟨F,o,G⟩,R,hh⟩:=af hh
 try dsimp only at hh
 refine⟨[iA F,iA o,iA G],Nb Q,Gb R,?_⟩
 cbv
 obtain⟨S,hh⟩:=ac hh
 obtain⟨⟨H,p,I⟩,T,hh⟩:=af hh
 try dsimp only at hh
 refine⟨[iA H,iA p,iA I],Nb S,Gb T,?_⟩
 cbv
 replace hh:=aG hh
 rcases hh with⟨v,hh⟩|⟨v,hh⟩
 have j:(lt p o)=true:=Tb v
 have g:=j;cbv at g;try rw[j]
 try rw[g]
 cbv
 ·refine y _ _ hh fun K e=>?_
  refine ai ?_
  cbv
  all_goals exact J1
 have j:(lt p o)=false:=Fb v
 have g:=j;cbv at g;try rw[j]
 try rw[g]
 cbv
 cases hh
 have hh:some _=some _:=t
 refine z _ _ ?_
 cbv
 exact Eb
 replace hh:=ifF hh d
 try rw[d]
 cbv
 ·refine y _ _ hh fun K e=>?_
  refine ai ?_
  cbv
  all_goals exact J1
 have c:A=false:=Fb u
 have g:=c;cbv at g;try rw[c]
 try rw[g]
 cbv
 cases hh
 have hh:some _=some _:=t
 refine z _ _ ?_
 cbv
 exact Eb
 replace hh:=ifF hh b
 try rw[b]
 cbv
 ·refine L () _ hh fun _ e=>?_
  refine ai ?_
  cbv
  all_goals exact J0

theorem uF {p0:Int} {r:ByteArray} (hh:iw.f p0=some r):ak P 239 [iA p0] [hA] (sA r):=by
 unfold iw.f at hh
 refine go (ts:=[(2,none)]) (rm:=[.own]) (pm:=[.skip]) Tryz.func239 ?_
 unhygienic intros
 cbv
 refine bcs (fun b=>?_) (fun b=>?_)
 replace hh:=ifT hh b
 try rw[b]
 cbv
 exact Eb
 replace hh:=ifF hh b
 try rw[b]
 cbv
 replace hh:=aG hh
 rcases hh with⟨d,hh⟩|⟨d,hh⟩
 have c:(lt p0 5)=true:=Tb d
 have g:=c;cbv at g;try rw[c]
 try rw[g]
 cbv
 obtain⟨j,hh⟩:=ac hh
 obtain⟨o,hh⟩:=ac hh
 obtain⟨p,hh⟩:=ac hh
 refine⟨⟨Nb j,Nb o,Nb p⟩,?_⟩
 exact Eb
 have c:(lt p0 5)=false:=Fb d
 have g:=c;cbv at g;try rw[c]
 try rw[g]
 cbv
 exact Eb

theorem vH {r:List ByteArray} (hh:ky.f=some r):ak P 240 [] [] (oA 1 (qStr r)):=by
 unfold ky.f at hh
 refine go (ts:=[(0,none)]) (rm:=[.own]) (pm:=[]) Tryz.func240 ?_
 unhygienic intros
 cbv
 exact Eb

theorem Dn:∀k:Nat,(∀{p0:Int} {r:ByteArray},cO.f k p0=some r→ak P 241 [iA p0] [hA] (sA r)):=by
  intro k
  induction k using Nat.strongRecOn with
  |_ k ih=>
  · intro p0 r hh
    cases k with
    |zero=>unfold cO.f at hh;cases hh
    |succ k=>
    unfold cO.f at hh
    refine go (ts:=[(2,none)]) (rm:=[.own]) (pm:=[.skip]) Tryz.func241 ?_
    unhygienic intros
    cbv
    refine bcs (fun c=>?_) (fun c=>?_)
    replace hh:=ifT hh c
    try rw[c]
    cbv
    exact Eb
    replace hh:=ifF hh c
    try rw[c]
    cbv
    refine bcs (fun d=>?_) (fun d=>?_)
    replace hh:=ifT hh d
    try rw[d]
    cbv
    obtain⟨H,C,hh⟩:=af hh
    refine ag hF ((ih k (Nat.lt_succ_self k)) C) ?_
    cbv
    obtain⟨D,hh⟩:=ac hh
    refine⟨Wb D,?_⟩
    exact Eb
    replace hh:=ifF hh d
    try rw[d]
    cbv
    obtain⟨F,t,u⟩:=af hh
    refine ay hC eok mixed (fun n (i:Int×ByteArray)=>cO.l0 k n i.1 i.2)
     (fun⟨j,o⟩=>(⟨[(0,iA j),(3,sA o)],[]⟩:St))
     (fun(⟨p,s⟩:Int×ByteArray)=>(⟨[(0,iA p),(3,sA s)],[]⟩:St)) (fun x=>x) (.exit 0)
     (i0:=(_,_)) t (fun _=>rfl) ?_ ?_ ?_
    ·rintro⟨v,w⟩ e
     refine ai ?_
     cbv
     all_goals exact J2
    rintro⟨p,s⟩ hx
    subst F
    have hh:=u
    cbv
    refine⟨Ob,?_⟩
    obtain⟨y,hh⟩:=ac hh
    refine⟨Wb y,?_⟩
    exact Eb
    rintro n ⟨j,o⟩ I J hh z A G
    try dsimp only at hh
    unfold cO.l0 at hh
    cbv
    refine bcs (fun b=>?_) (fun b=>?_)
    replace hh:=ifT hh b
    try rw[b]
    cbv
    refine⟨Ob,?_⟩
    obtain⟨B,hh⟩:=ac hh
    refine⟨Wb B,?_⟩
    ·refine z (_,_) _ hh fun⟨v,w⟩ e=>?_
     refine ai ?_
     cbv
     all_goals exact J2
    replace hh:=ifF hh b
    try rw[b]
    cbv
    ·refine A (_,_) _ hh fun⟨v,w⟩ e=>?_
     refine ai ?_
     cbv
     all_goals exact J2
theorem xe {k:Nat} {p0:Int} {r:ByteArray} (hh:cO.f k p0=some r):ak P 241 [iA p0] [hA] (sA r):=(Dn hQ k) hh


theorem Ec:∀k:Nat,(∀{p0:GEx} {r:ByteArray},aS.f k p0=some r→ak P 203 [.agg [iA p0.Kind,iA p0.Sym,iA p0.N,tA (qGEx p0.Kids)]] [hA] (sA r)):=by
  intro k
  induction k using Nat.strongRecOn with
  |_ k ih=>
  · intro p0 r hh
    cases k with
    |zero=>unfold aS.f at hh;cases hh
    |succ k=>
    obtain⟨p0a,p0b,p0c,p0d⟩:=p0
    unfold aS.f at hh
    refine go (ts:=[(2,none)]) (rm:=[.own]) (pm:=[.skip]) Tryz.func203 ?_
    unhygienic intros
    cbv
    refine bcs (fun j=>?_) (fun j=>?_)
    replace hh:=ifT hh j
    try rw[j]
    cbv
    obtain⟨x4,h3,hh⟩:=af hh
    refine ag hF (uF hQ h3) ?_
    cbv
    exact Eb
    replace hh:=ifF hh j
    try rw[j]
    cbv
    obtain⟨x7,h6,hh⟩:=af hh
    refine ag hF (vH hQ h6) ?_
    cbv
    obtain⟨Q,hh⟩:=ac hh
    try dsimp only at Q
    obtain⟨v,hh⟩:=ac hh
    try dsimp only at v
    refine⟨Nb Q,Mb v,?_⟩
    obtain⟨R,S,hh⟩:=af hh
    refine⟨[sA R],Gb S,?_⟩
    cbv
    refine bcs (fun b=>?_) (fun b=>?_)
    replace hh:=ifT hh b
    try rw[b]
    cbv
    obtain⟨T,hh⟩:=ac hh
    refine⟨Wb T,?_⟩
    obtain⟨Fr,U,hh⟩:=af hh
    refine ag hF (xe hQ U) ?_
    cbv
    obtain⟨V,hh⟩:=ac hh
    refine⟨Wb V,?_⟩
    obtain⟨D,o,p⟩:=af hh
    refine ay hC eok mixed (fun n (i:ByteArray×Int)=>aS.l0 k (aS.f k) (⟨p0a,p0b,p0c,p0d⟩:GEx) n i.1 i.2)
     (fun⟨w,y⟩=>(⟨[(1,.mptr (1,0) 1 0 0),(3,sA w),(4,iA y)],[((1,0),.box 1 [iA p0a,iA p0b,iA p0c,tA (qGEx p0d)])]⟩:St))
     (fun(z:ByteArray)=>(⟨[(3,sA z)],[]⟩:St)) (fun x=>x) (.exit 0)
     (i0:=(_,_)) o (fun _=>rfl) ?_ ?_ ?_
    ·rintro⟨s,F⟩ e
     refine ai ?_
     cbv
     all_goals exact J2
    rintro z hx
    subst D
    have hh:=p
    cbv
    exact Eb
    rintro n ⟨w,y⟩ N1 D1 hh t u W
    try dsimp only at hh
    unfold aS.l0 at hh
    cbv
    refine bcs (fun c=>?_) (fun c=>?_)
    replace hh:=ifT hh c
    try rw[c]
    cbv
    obtain⟨X,hh⟩:=ac hh
    refine⟨Wb X,?_⟩
    obtain⟨Y,hh⟩:=ac hh
    obtain⟨⟨G,H,I,J⟩,Z,hh⟩:=af hh
    try dsimp only at hh
    refine⟨[iA G,iA H,iA I,tA (qGEx J)],Nb Y,Gb Z,?_⟩
    cbv
    obtain⟨Fu,ek,hh⟩:=af hh
    refine ag hF ((ih k (Nat.lt_succ_self k)) ek) ?_
    cbv
    obtain⟨EJ,hh⟩:=ac hh
    refine⟨Wb EJ,?_⟩
    ·refine t (_,_) _ hh fun⟨s,F⟩ e=>?_
     refine ai ?_
     cbv
     all_goals exact J2
    replace hh:=ifF hh c
    try rw[c]
    cbv
    ·refine u _ _ hh fun s e=>?_
     refine ai ?_
     cbv
     all_goals exact J1
    replace hh:=ifF hh b
    try rw[b]
    cbv
    obtain⟨D,o,p⟩:=af hh
    refine ay hC eok mixed (fun n (i:ByteArray×Int)=>aS.l1 k (aS.f k) (⟨p0a,p0b,p0c,p0d⟩:GEx) n i.1 i.2)
     (fun⟨A,B⟩=>(⟨[(1,.mptr (1,0) 1 0 0),(3,sA A),(4,iA B)],[((1,0),.box 1 [iA p0a,iA p0b,iA p0c,tA (qGEx p0d)])]⟩:St))
     (fun(C:ByteArray)=>(⟨[(3,sA C)],[]⟩:St)) (fun x=>x) (.exit 0)
     (i0:=(_,_)) o (fun _=>rfl) ?_ ?_ ?_
    ·rintro⟨s,F⟩ e
     refine ai ?_
     cbv
     all_goals exact J2
    rintro C hx
    subst D
    have hh:=p
    cbv
    exact Eb
    rintro n ⟨A,B⟩ N1 D1 hh t u W
    try dsimp only at hh
    unfold aS.l1 at hh
    cbv
    refine bcs (fun d=>?_) (fun d=>?_)
    replace hh:=ifT hh d
    try rw[d]
    cbv
    obtain⟨E2,hh⟩:=ac hh
    refine⟨Wb E2,?_⟩
    obtain⟨E3,hh⟩:=ac hh
    obtain⟨⟨K,L,M,O⟩,Ff,hh⟩:=af hh
    try dsimp only at hh
    refine⟨[iA K,iA L,iA M,tA (qGEx O)],Nb E3,Gb Ff,?_⟩
    cbv
    obtain⟨Fx,Fj,hh⟩:=af hh
    refine ag hF ((ih k (Nat.lt_succ_self k)) Fj) ?_
    cbv
    obtain⟨Fk,hh⟩:=ac hh
    refine⟨Wb Fk,?_⟩
    ·refine t (_,_) _ hh fun⟨s,F⟩ e=>?_
     refine ai ?_
     cbv
     all_goals exact J2
    replace hh:=ifF hh d
    try rw[d]
    cbv
    ·refine u _ _ hh fun s e=>?_
     refine ai ?_
     cbv
     all_goals exact J1
theorem wZ {k:Nat} {p0:GEx} {r:ByteArray} (hh:aS.f k p0=some r):ak P 203 [.agg [iA p0.Kind,iA p0.Sym,iA p0.N,tA (qGEx p0.Kids)]] [hA] (sA r):=(Ec hQ k) hh


theorem zH {k:Nat} {p0:List ByteArray} {p1:ByteArray} {r:Int} (hh:dv.f k p0 p1=some r):ak P 204 [tA (qStr p0),sA p1] [hA,hA] (iA r):=by
 unfold dv.f at hh
 refine go (ts:=[(4,none)]) (rm:=[.own]) (pm:=[.skip,.skip]) Tryz.func204 ?_
 unhygienic intros
 cbv
 obtain⟨y,j,d⟩:=af hh
 refine ay hC eok mixed (dv.l0 k p0 p1)
  (fun o=>(⟨[(0,tA (qStr p0)),(1,sA p1),(5,iA o)],[]⟩:St))
  (fun(_:Unit)=>(⟨[],[]⟩:St)) .ok (.exit 0)
  (i0:=_) j (fun _=>rfl) ?_ ?_ ?_
 ·rintro z e
  refine ai ?_
  cbv
  all_goals exact J1
 rintro _ hx
 subst y
 have hh:=d
 cbv
 exact Eb
 rintro n o A B hh p s t
 unfold dv.l0 at hh
 cbv
 refine bcs (fun b=>?_) (fun b=>?_)
 replace hh:=ifT hh b
 try rw[b]
 cbv
 obtain⟨u,hh⟩:=ac hh
 obtain⟨v,w,hh⟩:=af hh
 refine⟨[sA v],Nb u,Gb w,?_⟩
 cbv
 refine bcs (fun c=>?_) (fun c=>?_)
 replace hh:=ifT hh c
 try rw[c]
 cbv
 cases hh
 have hh:some _=some _:=d
 refine t _ _ ?_
 cbv
 exact Eb
 replace hh:=ifF hh c
 try rw[c]
 cbv
 ·refine p _ _ hh fun z e=>?_
  refine ai ?_
  cbv
  all_goals exact J1
 replace hh:=ifF hh b
 try rw[b]
 cbv
 ·refine s () _ hh fun _ e=>?_
  refine ai ?_
  cbv
  all_goals exact J0
theorem vK {k:Nat} {p0:List ByteArray} {p1:ByteArray} {r:Int} (hh:dv.f k p0 p1=some r):ak P 204 [oA 1 (qStr p0),sA p1] [oA 1 (qStr p0),hA] (iA r):=by
  cases hQ;exact(zH .mk hh).lend (rfl) (.lend (congrArg A.tree (yT _).symm) (.same rfl .nil))

end Go.Proofs.YtlbnmldopjadoaaGreat
