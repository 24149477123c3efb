/- The functions of this program do what the plain ones do. -/
import Derived.Test.YtlbnmldopjadoaaGreatC5
namespace Go.Proofs.YtlbnmldopjadoaaGreat
open Go Go.Vm
set_option linter.unusedVariables false
set_option maxHeartbeats 4000000
set_option maxRecDepth 4000
variable {qIu8:List Int→Vm.Rows} {qInt:List Int→Vm.Rows} {qGExO:List GEx→Vm.Rows} {qGEx:List GEx→Vm.Rows} {qGEv:List GEv→Vm.Rows} {qGOcc:List GOcc→Vm.Rows} {qGNode:List GNode→Vm.Rows} {qLGOcc:List (List GOcc)→Vm.Rows} {qLInt:List (List Int)→Vm.Rows} {qGOccO:List GOcc→Vm.Rows} {qStr:List ByteArray→Vm.Rows} {qGNodeS:List GNode→Vm.Rows} {qBool:List Bool→Vm.Rows} (hQ:EQ qIu8 qInt qGExO qGEx qGEv qGOcc qGNode qLGOcc qLInt qGOccO qStr qGNodeS qBool)
include hQ
theorem D4:∀k:Nat,(∀{p0:GGraph} {p1:List ByteArray} {p2:GEx} {r:GGraph×(List ByteArray)×Int},cM.f k p0 p1 p2=some r→ak P 158 [.agg [iA p0.Mode,oA 10 (qGNodeS p0.Nodes),iA p0.Seen,iA p0.Now,bA p0.Full],oA 1 (qStr p1),.agg [iA p2.Kind,iA p2.Sym,iA p2.N,tA (qGEx p2.Kids)]] [hA,hA,hA] (.tup [.agg [iA r.1.Mode,oA 10 (qGNodeS r.1.Nodes),iA r.1.Seen,iA r.1.Now,bA r.1.Full],oA 1 (qStr r.2.1),iA r.2.2])):=by
  intro k
  induction k using Nat.strongRecOn with
  |_ k ih=>
  · intro p0 p1 p2 r hh
    cases k with
    |zero=>unfold cM.f at hh;cases hh
    |succ k=>
    obtain⟨p0a,p0b,p0c,p0d,p0e⟩:=p0
    obtain⟨p2a,p2b,p2c,p2d⟩:=p2
    unfold cM.f at hh
    refine go (ts:=[(6,some 91),(7,none),(8,none)]) (rm:=[.own,.own,.own]) (pm:=[.skip,.skip,.skip]) Tryz.func158 ?_
    unhygienic intros
    cbv
    obtain⟨K,h1,hh⟩:=af hh
    refine ag hF (wZ hQ h1) ?_
    cbv
    obtain⟨L,h4,hh⟩:=af hh
    refine ag hF (vK hQ h4) ?_
    cbv
    replace hh:=aG hh
    rcases hh with⟨F,hh⟩|⟨F,hh⟩
    have c:(lt L 0)=true:=Tb F
    have g:=c;cbv at g;try rw[c]
    try rw[g]
    cbv
    obtain⟨o1,M,O⟩:=af hh
    refine ay hC eok mixed (fun n (i:(List ByteArray)×Int×(List GNode)×Int×Int×Bool×(List Int)×Int)=>cM.l0 k (cM.f k) (⟨p2a,p2b,p2c,p2d⟩:GEx) n i.1 i.2.1 i.2.2.1 i.2.2.2.1 i.2.2.2.2.1 i.2.2.2.2.2.1 i.2.2.2.2.2.2.1 i.2.2.2.2.2.2.2)
     (fun⟨d,u,j,v,w,y,o,z⟩=>(⟨[(1,.ref (1,0) 1 0 (len (qStr d))),(3,.mptr (3,0) 1 0 0),(5,.mptr (5,0) 1 0 0),(6,.mptr (6,0) 1 0 0),(9,sA K),(11,.mptr (11,0) 1 0 0),(12,iA z)],[((0,0),.arr 1 10 (qGNodeS j)),((1,0),.arr 1 1 (qStr d)),((3,0),.box 1 [iA u,.ref (0,0) 1 0 (len (qGNodeS j)),iA v,iA w,bA y]),((5,0),.box 1 [iA p2a,iA p2b,iA p2c,tA (qGEx p2d)]),((6,0),.box 1 [iA 0,.lit (.slice none 0 0),iA 0,iA 0,bA false]),((11,0),.box 1 [iA p2a,iA p2b,iA p2c,.ref (11,53) 1 0 (len (qInt o)),.lit (.slice none 0 0),.lit (.slice none 0 0),.lit (.slice none 0 0),.lit (.slice none 0 0),.lit (.slice none 0 0),iA 0]),((11,53),.arr 1 1 (qInt o))]⟩:St))
     (fun(⟨p,A,s,B,C,D,t⟩:(List ByteArray)×Int×(List GNode)×Int×Int×Bool×(List Int))=>(⟨[(1,.ref (1,0) 1 0 (len (qStr p))),(3,.mptr (3,0) 1 0 0),(6,.mptr (6,0) 1 0 0),(9,sA K),(11,.mptr (11,0) 1 0 0)],[((0,0),.arr 1 10 (qGNodeS s)),((1,0),.arr 1 1 (qStr p)),((3,0),.box 1 [iA A,.ref (0,0) 1 0 (len (qGNodeS s)),iA B,iA C,bA D]),((6,0),.box 1 [iA 0,.lit (.slice none 0 0),iA 0,iA 0,bA false]),((11,0),.box 1 [iA p2a,iA p2b,iA p2c,.ref (11,53) 1 0 (len (qInt t)),.lit (.slice none 0 0),.lit (.slice none 0 0),.lit (.slice none 0 0),.lit (.slice none 0 0),.lit (.slice none 0 0),iA 0]),((11,53),.arr 1 1 (qInt t))]⟩:St)) (fun x=>x) (.exit 0)
     (i0:=(_,_,_,_,_,_,_,_)) M (fun _=>rfl) ?_ ?_ ?_
    ·rintro⟨Q,R,S,T,U,V,W,t7⟩ e
     refine aq [((0,0),(0,0)),((1,0),(1,0)),((3,0),(3,0)),((5,0),(5,0)),((6,0),(6,0)),((11,0),(11,0))] ?_
     cbv
     all_goals exact J8
    rintro⟨p,A,s,B,C,D,t⟩ hx
    subst o1
    have hh:=O
    cbv
    refine⟨some 3,?_⟩;try cbv
    refine⟨some 3,?_⟩;try cbv
    refine⟨some 3,?_⟩;try cbv
    refine⟨some 3,?_⟩;try cbv
    refine⟨some 3,?_⟩;try cbv
    obtain⟨X,hh⟩:=ac hh
    refine⟨⟨Ob,Ab⟩,?_⟩
    refine⟨⟨Ob,Wb X⟩,?_⟩
    obtain⟨Y,hh⟩:=ac hh
    refine⟨⟨Ob,Ab⟩,?_⟩
    refine⟨⟨Ob,Wb Y⟩,?_⟩
    exact Eb
    rintro n ⟨d,u,j,v,w,y,o,z⟩ N1 D1 hh Z ek FB
    try dsimp only at hh
    unfold cM.l0 at hh
    cbv
    refine bcs (fun b=>?_) (fun b=>?_)
    replace hh:=ifT hh b
    try rw[b]
    cbv
    obtain⟨EJ,hh⟩:=ac hh
    obtain⟨⟨G,H,I,J⟩,E2,hh⟩:=af hh
    try dsimp only at hh
    refine⟨[iA G,iA H,iA I,tA (qGEx J)],Nb EJ,Gb E2,?_⟩
    cbv
    obtain⟨⟨⟨E3,Ff,Fj,Fk,Fm⟩,Fq,Fr⟩,Fo,hh⟩:=af hh
    try dsimp only at hh
    have fc:=(ih k (Nat.lt_succ_self k)) Fo
    try dsimp only at fc
    refine ag hF fc ?_
    cbv
    obtain⟨Fp,hh⟩:=ac hh
    refine⟨⟨Ob,Ab⟩,?_⟩
    refine⟨⟨Ob,Wb Fp⟩,?_⟩
    ·refine Z (_,_,_,_,_,_,_,_) _ hh fun⟨Q,R,S,T,U,V,W,t7⟩ e=>?_
     refine aq [((0,0),(46,0)),((1,0),(46,5)),((3,0),(3,0)),((5,0),(5,0)),((6,0),(6,0)),((11,0),(11,0)),((11,53),(54,0))] ?_
     cbv
     all_goals exact J8
    replace hh:=ifF hh b
    try rw[b]
    cbv
    ·refine ek (_,_,_,_,_,_,_) _ hh fun⟨Q,R,S,T,U,V,W⟩ e=>?_
     refine ai ?_
     cbv
     all_goals exact J7
    have c:(lt L 0)=false:=Fb F
    have g:=c;cbv at g;try rw[c]
    try rw[g]
    cbv
    exact Eb
theorem yz {k:Nat} {p0:GGraph} {p1:List ByteArray} {p2:GEx} {r:GGraph×(List ByteArray)×Int} (hh:cM.f k p0 p1 p2=some r):ak P 158 [.agg [iA p0.Mode,oA 10 (qGNodeS p0.Nodes),iA p0.Seen,iA p0.Now,bA p0.Full],oA 1 (qStr p1),.agg [iA p2.Kind,iA p2.Sym,iA p2.N,tA (qGEx p2.Kids)]] [hA,hA,hA] (.tup [.agg [iA r.1.Mode,oA 10 (qGNodeS r.1.Nodes),iA r.1.Seen,iA r.1.Now,bA r.1.Full],oA 1 (qStr r.2.1),iA r.2.2]):=(D4 hQ k) hh


theorem vz {k:Nat} {p0:GEx} {p1:Int} {r:GGraph} (hh:jd.f k p0 p1=some r):ak P 97 [.agg [iA p0.Kind,iA p0.Sym,iA p0.N,tA (qGEx p0.Kids)],iA p1] [hA,hA] (.agg [iA r.Mode,oA 10 (qGNodeS r.Nodes),iA r.Seen,iA r.Now,bA r.Full]):=by
 obtain⟨p0a,p0b,p0c,p0d⟩:=p0
 unfold jd.f at hh
 refine go (ts:=[(4,some 91)]) (rm:=[.own]) (pm:=[.skip,.skip]) Tryz.func97 ?_
 unhygienic intros
 cbv
 obtain⟨o,B,hh⟩:=af hh
 refine ag hF (oq hQ B) ?_
 cbv
 replace hh:=aG hh
 rcases hh with⟨d,hh⟩|⟨d,hh⟩
 have c:o=true:=Tb d
 have g:=c;cbv at g;try rw[c]
 try rw[g]
 cbv
 obtain⟨p,C,hh⟩:=af hh
 refine ag hF (qg hQ C) ?_
 cbv
 replace hh:=aG hh
 rcases hh with⟨j,hh⟩|⟨j,hh⟩
 have b:p=true:=Tb j
 have g:=b;cbv at g;try rw[b]
 try rw[g]
 cbv
 obtain⟨⟨⟨s,t,u,v,w⟩,z,A⟩,y,hh⟩:=af hh
 try dsimp only at hh
 refine⟨10,?_⟩
 cbv
 refine⟨1,?_⟩
 cbv
 have fc:=yz hQ y
 try dsimp only at fc
 refine ag hF fc ?_
 cbv
 exact Eb
 have b:p=false:=Fb j
 have g:=b;cbv at g;try rw[b]
 try rw[g]
 cbv
 refine⟨10,?_⟩
 cbv
 exact Eb
 have c:o=false:=Fb d
 have g:=c;cbv at g;try rw[c]
 try rw[g]
 cbv
 refine⟨10,?_⟩
 cbv
 exact Eb

theorem qX {p0:Int} {p1:Int} {r:Int} (hh:io.f p0 p1=some r):ak P 205 [iA p0,iA p1] [hA,hA] (iA r):=by
 unfold io.f at hh
 refine go (ts:=[(4,none)]) (rm:=[.own]) (pm:=[.skip,.skip]) Tryz.func205 ?_
 unhygienic intros
 cbv
 refine bcs (fun b=>?_) (fun b=>?_)
 replace hh:=ifT hh b
 try rw[b]
 cbv
 exact Eb
 replace hh:=ifF hh b
 try rw[b]
 cbv
 exact Eb

theorem wO {k:Nat} {p0:GGraph} {p1:Int} {r:Int} (hh:bu.f k p0 p1=some r):ak P 159 [.agg [iA p0.Mode,tA (qGNode p0.Nodes),iA p0.Seen,iA p0.Now,bA p0.Full],iA p1] [hA,hA] (iA r):=by
 obtain⟨p0a,p0b,p0c,p0d,p0e⟩:=p0
 unfold bu.f at hh
 refine go (ts:=[(4,none)]) (rm:=[.own]) (pm:=[.skip,.skip]) Tryz.func159 ?_
 unhygienic intros
 cbv
 obtain⟨o1,E3,Ff⟩:=af hh
 refine ay hC eok mixed (fun n (i:Int×Int)=>bu.l2 k (⟨p0a,p0b,p0c,p0d,p0e⟩:GGraph) n i.1 i.2)
  (fun⟨T,c⟩=>(⟨[(1,iA T),(2,.mptr (2,0) 1 0 0),(5,iA c)],[((2,0),.box 1 [iA p0a,tA (qGNode p0b),iA p0c,iA p0d,bA p0e])]⟩:St))
  (fun(U:Int)=>(⟨[(1,iA U)],[]⟩:St)) (fun x=>x) (.exit 0)
  (i0:=(_,_)) E3 (fun _=>rfl) ?_ ?_ ?_
 ·rintro⟨j,V⟩ e
  refine ai ?_
  cbv
  all_goals exact J2
 rintro U hx
 subst o1
 have hh:=Ff
 cbv
 exact Eb
 rintro n ⟨T,c⟩ N1 D1 hh Fj Fk Fz
 try dsimp only at hh
 unfold bu.l2 at hh
 cbv
 refine bcs (fun d=>?_) (fun d=>?_)
 replace hh:=ifT hh d
 try rw[d]
 cbv
 obtain⟨o2,Fm,Fo⟩:=af hh
 refine ay hC eok mixed (fun n (i:Int×Int)=>bu.l3 k (⟨p0a,p0b,p0c,p0d,p0e⟩:GGraph) c n i.1 i.2)
  (fun⟨o,p⟩=>(⟨[(1,iA o),(2,.mptr (2,0) 1 0 0),(5,iA c),(6,iA p)],[((2,0),.box 1 [iA p0a,tA (qGNode p0b),iA p0c,iA p0d,bA p0e])]⟩:St))
  (fun(s:Int)=>(⟨[(1,iA s),(2,.mptr (2,0) 1 0 0),(5,iA c)],[((2,0),.box 1 [iA p0a,tA (qGNode p0b),iA p0c,iA p0d,bA p0e])]⟩:St)) (fun x=>x) (.exit 2)
  (i0:=(_,_)) Fm (fun _=>rfl) ?_ ?_ ?_
 ·rintro⟨j,V⟩ e
  refine ai ?_
  cbv
  all_goals exact J2
 rintro s hx
 subst o2
 have hh:=Fo
 cbv
 ·refine Fj (_,_) _ hh fun⟨j,V⟩ e=>?_
  refine ai ?_
  cbv
  all_goals exact J2
 rintro n ⟨o,p⟩ N2 D2 hh Fp Fq FA
 try dsimp only at hh
 unfold bu.l3 at hh
 cbv
 obtain⟨W,hh⟩:=ac hh
 obtain⟨⟨t,u,v,w,⟨y,z⟩,⟨A,B⟩,C,D⟩,X,hh⟩:=af hh
 try dsimp only at hh
 refine⟨[iA t,iA u,iA v,tA (qInt w),tA (qGOcc y),tA (qGOcc z),tA (qGOcc A),tA (qGOcc B),tA (qGOcc C),iA D],Nb W,Gb X,?_⟩
 cbv
 refine bcs (fun b=>?_) (fun b=>?_)
 replace hh:=ifT hh b
 try rw[b]
 cbv
 obtain⟨Y,hh⟩:=ac hh
 obtain⟨⟨F,G,H,I,⟨J,K⟩,⟨L,M⟩,N,O⟩,Z,hh⟩:=af hh
 try dsimp only at hh
 refine⟨[iA F,iA G,iA H,tA (qInt I),tA (qGOcc J),tA (qGOcc K),tA (qGOcc L),tA (qGOcc M),tA (qGOcc N),iA O],Nb Y,Gb Z,?_⟩
 cbv
 obtain⟨ek,hh⟩:=ac hh
 obtain⟨⟨Q,R,S⟩,EJ,hh⟩:=af hh
 try dsimp only at hh
 refine⟨[iA Q,iA R,tA (qInt S)],Nb ek,Gb EJ,?_⟩
 cbv
 obtain⟨Fx,E2,hh⟩:=af hh
 refine ag hF (qX hQ E2) ?_
 cbv
 ·refine Fp (_,_) _ hh fun⟨j,V⟩ e=>?_
  refine ai ?_
  cbv
  all_goals exact J2
 replace hh:=ifF hh b
 try rw[b]
 cbv
 ·refine Fq _ _ hh fun j e=>?_
  refine ai ?_
  cbv
  all_goals exact J1
 replace hh:=ifF hh d
 try rw[d]
 cbv
 ·refine Fk _ _ hh fun j e=>?_
  refine ai ?_
  cbv
  all_goals exact J1
theorem kJ {k:Nat} {p0:GGraph} {p1:Int} {r:Int} (hh:bu.f k p0 p1=some r):ak P 159 [.agg [iA p0.Mode,oA 10 (qGNodeS p0.Nodes),iA p0.Seen,iA p0.Now,bA p0.Full],iA p1] [.agg [iA p0.Mode,oA 10 (qGNodeS p0.Nodes),iA p0.Seen,iA p0.Now,bA p0.Full],hA] (iA r):=by
  cases hQ;exact(wO .mk hh).lend (rfl) (.lend (by simp) (.same rfl .nil))

theorem jP {p0:GOcc} {r:GOcc} (hh:eZ.f p0=some r):ak P 161 [.agg [iA p0.From,iA p0.To,tA (qInt p0.Ids)]] [hA] (.agg [iA r.From,iA r.To,oA 1 (qInt r.Ids)]):=by
 obtain⟨p0a,p0b,p0c⟩:=p0
 unfold eZ.f at hh
 refine go (ts:=[(2,some 67)]) (rm:=[.own]) (pm:=[.skip]) Tryz.func161 ?_
 unhygienic intros
 cbv
 obtain⟨b,hh⟩:=ac hh
 try dsimp only at b
 refine⟨⟨Ab,Ab⟩,?_⟩
 refine⟨⟨Ob,Wb b⟩,?_⟩
 exact Eb

theorem qb {k:Nat} {p0:List GOcc} {r:List GOcc} (hh:cV.f k p0=some r):ak P 99 [tA (qGOcc p0)] [hA] (oA 3 (qGOccO r)):=by
 unfold cV.f at hh
 refine go (ts:=[(2,none)]) (rm:=[.own]) (pm:=[.skip]) Tryz.func99 ?_
 unhygienic intros
 cbv
 obtain⟨D,t,u⟩:=af hh
 refine ay hC eok mixed (fun n (i:(List GOcc)×Int)=>cV.l0 k p0 n i.1 i.2)
  (fun⟨c,j⟩=>(⟨[(0,tA (qGOcc p0)),(3,.ref (5,0) 1 0 (len (qGOccO c))),(4,iA j)],[((5,0),.arr 1 3 (qGOccO c))]⟩:St))
  (fun(d:List GOcc)=>(⟨[(3,.ref (5,0) 1 0 (len (qGOccO d)))],[((5,0),.arr 1 3 (qGOccO d))]⟩:St)) (fun x=>x) (.exit 0)
  (i0:=(_,_)) t (fun _=>rfl) ?_ ?_ ?_
 ·rintro⟨v,F⟩ e
  refine ai ?_
  cbv
  all_goals exact J2
 rintro d hx
 subst D
 have hh:=u
 cbv
 exact Eb
 rintro n ⟨c,j⟩ K L hh w y J
 try dsimp only at hh
 unfold cV.l0 at hh
 cbv
 refine bcs (fun b=>?_) (fun b=>?_)
 replace hh:=ifT hh b
 try rw[b]
 cbv
 obtain⟨z,hh⟩:=ac hh
 obtain⟨⟨o,p,s⟩,A,hh⟩:=af hh
 try dsimp only at hh
 refine⟨[iA o,iA p,tA (qInt s)],Nb z,Gb A,?_⟩
 cbv
 obtain⟨⟨G,H,I⟩,B,hh⟩:=af hh
 try dsimp only at hh
 have fc:=jP hQ B
 try dsimp only at fc
 refine ag hF fc ?_
 cbv
 obtain⟨C,hh⟩:=ac hh
 refine⟨⟨Ob,Ab⟩,?_⟩
 refine⟨⟨Ob,Wb C⟩,?_⟩
 ·refine w (_,_) _ hh fun⟨v,F⟩ e=>?_
  refine aq [((5,0),(19,0))] ?_
  cbv
  all_goals exact J2
 replace hh:=ifF hh b
 try rw[b]
 cbv
 ·refine y _ _ hh fun v e=>?_
  refine ai ?_
  cbv
  all_goals exact J1
theorem sg {k:Nat} {p0:List GOcc} {r:List GOcc} (hh:cV.f k p0=some r):ak P 99 [oA 3 (qGOcc p0)] [oA 3 (qGOcc p0)] (oA 3 (qGOccO r)):=by
  cases hQ;exact(qb .mk hh).lend (kG _) (.lend (congrArg A.tree (jc _).symm) .nil)

theorem qu {k:Nat} {p0:List Int} {p1:List Int} {r:Int} (hh:dI.f k p0 p1=some r):ak P 265 [tA (qInt p0),tA (qInt p1)] [hA,hA] (iA r):=by
 unfold dI.f at hh
 refine go (ts:=[(4,none)]) (rm:=[.own]) (pm:=[.skip,.skip]) Tryz.func265 ?_
 unhygienic intros
 cbv
 obtain⟨M,w,s⟩:=af hh
 refine ay hC eok mixed (dI.l0 k p0 p1)
  (fun t=>(⟨[(0,tA (qInt p0)),(1,tA (qInt p1)),(5,iA t)],[]⟩:St))
  (fun(_:Unit)=>(⟨[(0,tA (qInt p0)),(1,tA (qInt p1))],[]⟩:St)) .ok (.exit 0)
  (i0:=_) w (fun _=>rfl) ?_ ?_ ?_
 ·rintro N e
  refine ai ?_
  cbv
  all_goals exact J1
 rintro _ hx
 subst M
 have hh:=s
 cbv
 refine bcs (fun b=>?_) (fun b=>?_)
 replace hh:=ifT hh b
 try rw[b]
 cbv
 exact Eb
 replace hh:=ifF hh b
 try rw[b]
 cbv
 refine bcs (fun c=>?_) (fun c=>?_)
 replace hh:=ifT hh c
 try rw[c]
 cbv
 exact Eb
 replace hh:=ifF hh c
 try rw[c]
 cbv
 exact Eb
 rintro n t O Q hh y u v
 unfold dI.l0 at hh
 cbv
 refine bcs (fun d=>?_) (fun d=>?_)
 replace hh:=ifT hh d
 try rw[d]
 cbv
 refine bcs (fun j=>?_) (fun j=>?_)
 replace hh:=ifT hh j
 try rw[j]
 cbv
 obtain⟨z,hh⟩:=ac hh
 obtain⟨A,B,hh⟩:=af hh
 refine⟨[iA A],Nb z,Gb B,?_⟩
 cbv
 obtain⟨C,hh⟩:=ac hh
 obtain⟨D,F,hh⟩:=af hh
 refine⟨[iA D],Nb C,Gb F,?_⟩
 cbv
 refine bcs (fun o=>?_) (fun o=>?_)
 replace hh:=ifT hh o
 try rw[o]
 cbv
 cases hh
 have hh:some _=some _:=s
 refine v _ _ ?_
 cbv
 exact Eb
 replace hh:=ifF hh o
 try rw[o]
 cbv
 obtain⟨G,hh⟩:=ac hh
 obtain⟨H,I,hh⟩:=af hh
 refine⟨[iA H],Nb G,Gb I,?_⟩
 cbv
 obtain⟨J,hh⟩:=ac hh
 obtain⟨K,L,hh⟩:=af hh
 refine⟨[iA K],Nb J,Gb L,?_⟩
 cbv
 refine bcs (fun p=>?_) (fun p=>?_)
 replace hh:=ifT hh p
 try rw[p]
 cbv
 cases hh
 have hh:some _=some _:=s
 refine v _ _ ?_
 cbv
 exact Eb
 replace hh:=ifF hh p
 try rw[p]
 cbv
 ·refine y _ _ hh fun N e=>?_
  refine ai ?_
  cbv
  all_goals exact J1
 replace hh:=ifF hh j
 try rw[j]
 cbv
 ·refine u () _ hh fun _ e=>?_
  refine ai ?_
  cbv
  all_goals exact J0
 replace hh:=ifF hh d
 try rw[d]
 cbv
 ·refine u () _ hh fun _ e=>?_
  refine ai ?_
  cbv
  all_goals exact J0

theorem vG {k:Nat} {p0:GOcc} {p1:GOcc} {r:Bool} (hh:gQ.f k p0 p1=some r):ak P 248 [.agg [iA p0.From,iA p0.To,tA (qInt p0.Ids)],.agg [iA p1.From,iA p1.To,tA (qInt p1.Ids)]] [hA,hA] (bA r):=by
 obtain⟨p0a,p0b,p0c⟩:=p0
 obtain⟨p1a,p1b,p1c⟩:=p1
 unfold gQ.f at hh
 refine go (ts:=[(4,none)]) (rm:=[.own]) (pm:=[.skip,.skip]) Tryz.func248 ?_
 unhygienic intros
 cbv
 replace hh:=aG hh
 rcases hh with⟨d,hh⟩|⟨d,hh⟩
 have b:(eq p0b p1b)=true:=Tb d
 have g:=b;cbv at g;try rw[b]
 try rw[g]
 cbv
 replace hh:=aG hh
 rcases hh with⟨j,hh⟩|⟨j,hh⟩
 have c:(eq p0a p1a)=true:=Tb j
 have g:=c;cbv at g;try rw[c]
 try rw[g]
 cbv
 obtain⟨p,o,hh⟩:=af hh
 refine ag hF (qu hQ o) ?_
 cbv
 exact Eb
 have c:(eq p0a p1a)=false:=Fb j
 have g:=c;cbv at g;try rw[c]
 try rw[g]
 cbv
 exact Eb
 have b:(eq p0b p1b)=false:=Fb d
 have g:=b;cbv at g;try rw[b]
 try rw[g]
 cbv
 exact Eb
theorem mt {k:Nat} {p0:GOcc} {p1:GOcc} {r:Bool} (hh:gE.f k p0 p1=some r):ak P 272 [.agg [iA p0.From,iA p0.To,tA (qInt p0.Ids)],.agg [iA p1.From,iA p1.To,tA (qInt p1.Ids)]] [hA,hA] (bA r):=by
 obtain⟨p0a,p0b,p0c⟩:=p0
 obtain⟨p1a,p1b,p1c⟩:=p1
 unfold gE.f at hh
 refine go (ts:=[(4,none)]) (rm:=[.own]) (pm:=[.skip,.skip]) Tryz.func272 ?_
 unhygienic intros
 cbv
 refine bcs (fun b=>?_) (fun b=>?_)
 replace hh:=ifT hh b
 try rw[b]
 cbv
 refine bcs (fun c=>?_) (fun c=>?_)
 replace hh:=ifT hh c
 try rw[c]
 cbv
 refine bcs (fun d=>?_) (fun d=>?_)
 replace hh:=ifT hh d
 try rw[d]
 cbv
 obtain⟨o,j,hh⟩:=af hh
 refine ag hF (qu hQ j) ?_
 cbv
 exact Eb
 replace hh:=ifF hh d
 try rw[d]
 cbv
 exact Eb
 replace hh:=ifF hh c
 try rw[c]
 cbv
 exact Eb
 replace hh:=ifF hh b
 try rw[b]
 cbv
 exact Eb
theorem iT {k:Nat} {p0:List GOcc} {p1:GOcc} {r:List GOcc} (hh:cg.f k p0 p1=some r):ak P 257 [oA 3 (qGOcc p0),.agg [iA p1.From,iA p1.To,tA (qInt p1.Ids)]] [hA,hA] (oA 3 (qGOcc r)):=by
 obtain⟨p1a,p1b,p1c⟩:=p1
 unfold cg.f at hh
 refine goG (g:=[5]) (i:=[]) (o:=[]) (sh:=[]) (ts:=[(4,none)]) (rm:=[.own]) (pm:=[.skip,.skip]) Tryz.func257 ?_
 unhygienic intros
 cbv
 obtain⟨o1,J,K⟩:=af hh
 refine ay hC (bU [5] [] []) mixed (cg.l0 k p0 (⟨p1a,p1b,p1c⟩:GOcc))
  (fun p=>(⟨[(0,.ref (0,0) 1 0 (len (qGOcc p0))),(3,.mptr (3,0) 1 0 0),(5,iA p),(1000000,.ref (0,0) 1 0 (len (qGOcc p0)))],[((0,0),.arr 1 3 (qGOcc p0)),((3,0),.box 1 [iA p1a,iA p1b,tA (qInt p1c)])]⟩:St))
  (fun(s:Int)=>(⟨[(0,.ref (0,0) 1 0 (len (qGOcc p0))),(3,.mptr (3,0) 1 0 0),(5,iA s),(1000000,.ref (0,0) 1 0 (len (qGOcc p0)))],[((0,0),.arr 1 3 (qGOcc p0)),((3,0),.box 1 [iA p1a,iA p1b,tA (qInt p1c)])]⟩:St)) (fun x=>x) (.exit 0)
  (i0:=_) J (fun _=>rfl) ?_ ?_ ?_
 ·rintro u e
  refine ai ?_
  cbv
  all_goals exact J1
 rintro s hx
 subst o1
 have hh:=K
 cbv
 refine bcs (fun b=>?_) (fun b=>?_)
 replace hh:=ifT hh b
 try rw[b]
 cbv
 obtain⟨L,hh⟩:=ac hh
 obtain⟨M,hh⟩:=ac hh
 refine⟨Nb L,Mb M,?_⟩
 obtain⟨⟨v,w,y⟩,N,hh⟩:=af hh
 try dsimp only at hh
 refine⟨[iA v,iA w,tA (qInt y)],Gb N,?_⟩
 cbv
 obtain⟨FB,O,hh⟩:=af hh
 refine ag hF (mt hQ O) ?_
 cbv
 refine bcs (fun c=>?_) (fun c=>?_)
 replace hh:=ifT hh c
 try rw[c]
 cbv
 refine EK hC (bU [5] [] []) mixed (⟨[(0,.ref (0,0) 1 0 (len (qGOcc p0))),(1000000,.ref (0,0) 1 0 (len (qGOcc p0)))],[((0,0),.arr 1 3 (qGOcc p0))]⟩:St) ?_ ?_
 ·cbv
  refine ai ?_
  cbv
  all_goals exact Zb
 cbv
 exact Eb
 replace hh:=ifF hh c
 try rw[c]
 cbv
 obtain⟨Q,hh⟩:=ac hh
 obtain⟨R,hh⟩:=ac hh
 obtain⟨S,hh⟩:=ac hh
 refine⟨⟨Nb Q,Nb R,Nb S⟩,?_⟩
 obtain⟨T,hh⟩:=ac hh
 refine⟨⟨Ob,Ab,Ab⟩,?_⟩
 refine⟨⟨Ob,Wb T⟩,?_⟩
 obtain⟨U,hh⟩:=ac hh
 obtain⟨V,hh⟩:=ac hh
 obtain⟨W,hh⟩:=ac hh
 refine⟨⟨Nb U,Nb V,Nb W⟩,?_⟩
 obtain⟨⟨z,A,B⟩,X,hh⟩:=af hh
 try dsimp only at hh
 have fc:=ak.frz (r':=.agg [iA z,iA A,tA (qInt B)]) (jP hQ X) (by cases hQ;simp)
 try dsimp only at fc
 refine ag hF fc ?_
 cbv
 obtain⟨Y,hh⟩:=ac hh
 rw[if_pos (show(nadd 0 (toNat 0))=0∧True from⟨by cases hC;rfl,trivial⟩)]
 cbv
 refine⟨⟨Ob,Ab⟩,?_⟩
 refine⟨⟨Ob,Wb Y⟩,?_⟩
 obtain⟨Z,hh⟩:=ac hh
 refine⟨⟨Ob,Ab,Ab⟩,?_⟩
 refine⟨⟨Ob,Wb Z⟩,?_⟩
 exact Eb
 replace hh:=ifF hh b
 try rw[b]
 cbv
 obtain⟨ek,hh⟩:=ac hh
 obtain⟨EJ,hh⟩:=ac hh
 obtain⟨E2,hh⟩:=ac hh
 refine⟨⟨Nb ek,Nb EJ,Nb E2⟩,?_⟩
 obtain⟨E3,hh⟩:=ac hh
 refine⟨⟨Ob,Ab,Ab⟩,?_⟩
 refine⟨⟨Ob,Wb E3⟩,?_⟩
 obtain⟨Ff,hh⟩:=ac hh
 obtain⟨Fj,hh⟩:=ac hh
 obtain⟨Fk,hh⟩:=ac hh
 refine⟨⟨Nb Ff,Nb Fj,Nb Fk⟩,?_⟩
 obtain⟨⟨C,D,F⟩,Fm,hh⟩:=af hh
 try dsimp only at hh
 have fc:=ak.frz (r':=.agg [iA C,iA D,tA (qInt F)]) (jP hQ Fm) (by cases hQ;simp)
 try dsimp only at fc
 refine ag hF fc ?_
 cbv
 obtain⟨Fo,hh⟩:=ac hh
 rw[if_pos (show(nadd 0 (toNat 0))=0∧True from⟨by cases hC;rfl,trivial⟩)]
 cbv
 refine⟨⟨Ob,Ab⟩,?_⟩
 refine⟨⟨Ob,Wb Fo⟩,?_⟩
 obtain⟨Fp,hh⟩:=ac hh
 refine⟨⟨Ob,Ab,Ab⟩,?_⟩
 refine⟨⟨Ob,Wb Fp⟩,?_⟩
 exact Eb
 rintro n p N1 D1 hh Fq t FE
 unfold cg.l0 at hh
 cbv
 refine bcs (fun d=>?_) (fun d=>?_)
 replace hh:=ifT hh d
 try rw[d]
 cbv
 obtain⟨Fr,hh⟩:=ac hh
 obtain⟨Fu,hh⟩:=ac hh
 refine⟨Nb Fr,Mb Fu,?_⟩
 obtain⟨⟨G,H,I⟩,Fx,hh⟩:=af hh
 try dsimp only at hh
 refine⟨[iA G,iA H,tA (qInt I)],Gb Fx,?_⟩
 cbv
 obtain⟨FH,Fz,hh⟩:=af hh
 refine ag hF (vG hQ Fz) ?_
 cbv
 refine bcs (fun j=>?_) (fun j=>?_)
 replace hh:=ifT hh j
 try rw[j]
 cbv
 ·refine Fq _ _ hh fun u e=>?_
  refine ai ?_
  cbv
  all_goals exact J1
 replace hh:=ifF hh j
 try rw[j]
 cbv
 ·refine t _ _ hh fun u e=>?_
  refine ai ?_
  cbv
  all_goals exact J1
 replace hh:=ifF hh d
 try rw[d]
 cbv
 ·refine t _ _ hh fun u e=>?_
  refine ai ?_
  cbv
  all_goals exact J1

theorem c9 {k:Nat} {p0:List GOcc} {p1:List GOcc} {r:List GOcc} (hh:aU.f k p0 p1=some r):ak P 242 [oA 3 (qGOcc p0),tA (qGOcc p1)] [hA,hA] (oA 3 (qGOcc r)):=by
 unfold aU.f at hh
 refine go (ts:=[(4,none)]) (rm:=[.own]) (pm:=[.skip,.skip]) Tryz.func242 ?_
 unhygienic intros
 cbv
 obtain⟨C,t,u⟩:=af hh
 refine ay hC eok mixed (fun n (i:(List GOcc)×Int)=>aU.l0 k p1 n i.1 i.2)
  (fun⟨j,d⟩=>(⟨[(0,.ref (0,0) 1 0 (len (qGOcc j))),(1,tA (qGOcc p1)),(5,iA d)],[((0,0),.arr 1 3 (qGOcc j))]⟩:St))
  (fun(c:List GOcc)=>(⟨[(0,.ref (0,0) 1 0 (len (qGOcc c)))],[((0,0),.arr 1 3 (qGOcc c))]⟩:St)) (fun x=>x) (.exit 0)
  (i0:=(_,_)) t (fun _=>rfl) ?_ ?_ ?_
 ·rintro⟨v,D⟩ e
  refine ai ?_
  cbv
  all_goals exact J2
 rintro c hx
 subst C
 have hh:=u
 cbv
 exact Eb
 rintro n ⟨j,d⟩ H I hh w y F
 try dsimp only at hh
 unfold aU.l0 at hh
 cbv
 refine bcs (fun b=>?_) (fun b=>?_)
 replace hh:=ifT hh b
 try rw[b]
 cbv
 obtain⟨z,hh⟩:=ac hh
 obtain⟨⟨o,p,s⟩,A,hh⟩:=af hh
 try dsimp only at hh
 refine⟨[iA o,iA p,tA (qInt s)],Nb z,Gb A,?_⟩
 cbv
 obtain⟨G,B,hh⟩:=af hh
 refine ag hF (iT hQ B) ?_
 cbv
 ·refine w (_,_) _ hh fun⟨v,D⟩ e=>?_
  refine aq [((0,0),(17,0))] ?_
  cbv
  all_goals exact J2
 replace hh:=ifF hh b
 try rw[b]
 cbv
 ·refine y _ _ hh fun v e=>?_
  refine ai ?_
  cbv
  all_goals exact J1

theorem vx {k:Nat} {p0:List GOcc} {r:List Bool} (hh:cR.f k p0=some r):ak P 273 [tA (qGOcc p0)] [hA] (oA 1 (qBool r)):=by
 unfold cR.f at hh
 refine go (ts:=[(2,none)]) (rm:=[.own]) (pm:=[.skip]) Tryz.func273 ?_
 unhygienic intros
 cbv
 obtain⟨A,hh⟩:=ac hh
 obtain⟨B,hh⟩:=ac hh
 obtain⟨C,hh⟩:=ac hh
 refine⟨⟨Nb A,Nb B,Wb C⟩,?_⟩
 obtain⟨D,o,p⟩:=af hh
 refine ay hC eok mixed (fun n (i:(List Bool)×Int)=>cR.l0 k p0 n i.1 i.2)
  (fun⟨c,j⟩=>(⟨[(0,tA (qGOcc p0)),(3,.ref (7,0) 1 0 (len (qBool c))),(4,iA j)],[((7,0),.arr 1 1 (qBool c))]⟩:St))
  (fun(d:List Bool)=>(⟨[(3,.ref (7,0) 1 0 (len (qBool d)))],[((7,0),.arr 1 1 (qBool d))]⟩:St)) (fun x=>x) (.exit 0)
  (i0:=(_,_)) o (fun _=>rfl) ?_ ?_ ?_
 ·rintro⟨s,F⟩ e
  refine ai ?_
  cbv
  all_goals exact J2
 rintro d hx
 subst D
 have hh:=p
 cbv
 exact Eb
 rintro n ⟨c,j⟩ H I hh t u G
 try dsimp only at hh
 unfold cR.l0 at hh
 cbv
 refine bcs (fun b=>?_) (fun b=>?_)
 replace hh:=ifT hh b
 try rw[b]
 cbv
 obtain⟨v,hh⟩:=ac hh
 obtain⟨w,hh⟩:=ac hh
 refine⟨Nb v,Mb w,?_⟩
 obtain⟨y,z,hh⟩:=af hh
 refine⟨[bA y],Gb z,?_⟩
 cbv
 ·refine t (_,_) _ hh fun⟨s,F⟩ e=>?_
  refine ai ?_
  cbv
  all_goals exact J2
 replace hh:=ifF hh b
 try rw[b]
 cbv
 ·refine u _ _ hh fun s e=>?_
  refine ai ?_
  cbv
  all_goals exact J1
theorem rB {k:Nat} {p0:List GOcc} {r:List Bool} (hh:cR.f k p0=some r):ak P 273 [oA 3 (qGOcc p0)] [oA 3 (qGOcc p0)] (oA 1 (qBool r)):=by
  cases hQ;exact(vx .mk hh).lend (oC _) (.lend (congrArg A.tree (jc _).symm) .nil)
theorem mw {k:Nat} {p0:Int} {p1:List GOcc} {p2:List Bool} {r:(List GOcc)×(List GOcc)} (hh:aJ.f k p0 p1 p2=some r):ak P 259 [iA p0,oA 3 (qGOcc p1),tA (qBool p2)] [hA,hA,hA] (.tup [tA (qGOcc r.1),oA 3 (qGOcc r.2)]):=by
 unfold aJ.f at hh
 refine go (ts:=[(6,none),(7,none)]) (rm:=[.val,.own]) (pm:=[.skip,.skip,.skip]) Tryz.func259 ?_
 unhygienic intros
 cbv
 obtain⟨S,w,y⟩:=af hh
 refine ay hC eok mixed (fun n (i:(List GOcc)×Int)=>aJ.l0 k p1 p2 n i.1 i.2)
  (fun⟨T,Fm⟩=>(⟨[(0,iA p0),(1,.ref (1,0) 1 0 (len (qGOcc p1))),(2,tA (qBool p2)),(8,.ref (12,0) 1 0 (len (qGOcc T))),(9,.ref (13,0) 1 0 (len (qGOcc ([]:List GOcc)))),(10,iA Fm),(1000001,.ref (1,0) 1 0 (len (qGOcc p1)))],[((1,0),.arr 1 3 (qGOcc p1)),((12,0),.arr 1 3 (qGOcc T)),((13,0),.arr 1 3 (qGOcc ([]:List GOcc)))]⟩:St))
  (fun(b:List GOcc)=>(⟨[(0,iA p0),(1,.ref (1,0) 1 0 (len (qGOcc p1))),(2,tA (qBool p2)),(8,.ref (12,0) 1 0 (len (qGOcc b))),(9,.ref (13,0) 1 0 (len (qGOcc ([]:List GOcc)))),(1000001,.ref (1,0) 1 0 (len (qGOcc p1)))],[((1,0),.arr 1 3 (qGOcc p1)),((12,0),.arr 1 3 (qGOcc b)),((13,0),.arr 1 3 (qGOcc ([]:List GOcc)))]⟩:St)) (fun x=>x) (.exit 0)
  (i0:=(_,_)) w (fun _=>rfl) ?_ ?_ ?_
 ·rintro⟨j,v⟩ e
  refine ai ?_
  cbv
  all_goals exact J2
 rintro b hx
 subst S
 have hh:=y
 cbv
 refine bcs (fun z=>?_) (fun z=>?_)
 replace hh:=ifT hh z
 try rw[z]
 cbv
 exact Eb
 replace hh:=ifF hh z
 try rw[z]
 cbv
 refine bcs (fun A=>?_) (fun A=>?_)
 replace hh:=ifT hh A
 try rw[A]
 cbv
 exact Eb
 replace hh:=ifF hh A
 try rw[A]
 cbv
 refine bcs (fun B=>?_) (fun B=>?_)
 replace hh:=ifT hh B
 try rw[B]
 cbv
 obtain⟨Gd,hh⟩:=ac hh
 obtain⟨Ge,hh⟩:=ac hh
 obtain⟨Gf,hh⟩:=ac hh
 refine⟨⟨Nb Gd,Nb Ge,Nb Gf⟩,?_⟩
 exact Eb
 replace hh:=ifF hh B
 try rw[B]
 cbv
 refine bcs (fun c=>?_) (fun c=>?_)
 replace hh:=ifT hh c
 try rw[c]
 cbv
 obtain⟨Gg,hh⟩:=ac hh
 obtain⟨Gh,hh⟩:=ac hh
 obtain⟨Gi,hh⟩:=ac hh
 refine⟨⟨Nb Gg,Nb Gh,Nb Gi⟩,?_⟩
 obtain⟨S,w,y⟩:=af hh
 refine ay hC eok mixed (fun n (i:(List GOcc)×Int)=>aJ.l1 k p1 p2 b n i.1 i.2)
  (fun⟨U,Fo⟩=>(⟨[(0,iA p0),(1,.ref (1,0) 1 0 (len (qGOcc p1))),(2,tA (qBool p2)),(8,.ref (12,0) 1 (nadd 0 (toNat 0)) (toNat (sub 1 0))),(9,.ref (13,0) 1 0 (len (qGOcc U))),(11,iA Fo),(1000001,.ref (1,0) 1 0 (len (qGOcc p1)))],[((1,0),.arr 1 3 (qGOcc p1)),((12,0),.arr 1 3 (qGOcc b)),((13,0),.arr 1 3 (qGOcc U))]⟩:St))
  (fun(G:List GOcc)=>(⟨[(8,.ref (12,0) 1 (nadd 0 (toNat 0)) (toNat (sub 1 0))),(9,.ref (13,0) 1 0 (len (qGOcc G))),(1000001,.ref (1,0) 1 0 (len (qGOcc p1)))],[((1,0),.arr 1 3 (qGOcc p1)),((12,0),.arr 1 3 (qGOcc b)),((13,0),.arr 1 3 (qGOcc G))]⟩:St)) (fun x=>x) (.exit 3)
  (i0:=(_,_)) w (fun _=>rfl) ?_ ?_ ?_
 ·rintro⟨j,v⟩ e
  refine ai ?_
  cbv
  all_goals exact J2
 rintro G hx
 subst S
 have hh:=y
 cbv
 exact Eb
 rintro n ⟨U,Fo⟩ N1 D1 hh d C Fp
 try dsimp only at hh
 unfold aJ.l1 at hh
 cbv
 refine bcs (fun o=>?_) (fun o=>?_)
 replace hh:=ifT hh o
 try rw[o]
 cbv
 obtain⟨Fq,hh⟩:=ac hh
 obtain⟨H,Fr,hh⟩:=af hh
 refine⟨[bA H],Nb Fq,Gb Fr,?_⟩
 cbv
 replace hh:=aG hh
 rcases hh with⟨I,hh⟩|⟨I,hh⟩
 have p:H=true:=Tb I
 have g:=p;cbv at g;try rw[p]
 try rw[g]
 cbv
 first|rw[c]|(have g:=c;cbv at g;rw[g])
 cbv
 obtain⟨Fu,hh⟩:=ac hh
 obtain⟨Fx,hh⟩:=ac hh
 refine⟨Nb Fu,Mb Fx,?_⟩
 obtain⟨⟨O,Q,R⟩,V,hh⟩:=af hh
 try dsimp only at hh
 refine⟨[iA O,iA Q,tA (qInt R)],Gb V,?_⟩
 cbv
 obtain⟨Fz,hh⟩:=ac hh
 obtain⟨FA,hh⟩:=ac hh
 refine⟨Nb Fz,Mb FA,?_⟩
 obtain⟨⟨Y,Z,ek⟩,FB,hh⟩:=af hh
 try dsimp only at hh
 refine⟨[iA Y,iA Z,tA (qInt ek)],Gb FB,?_⟩
 cbv
 obtain⟨W,FE,hh⟩:=af hh
 refine ag hF (mt hQ FE) ?_
 cbv
 replace hh:=aG hh
 rcases hh with⟨J,hh⟩|⟨J,hh⟩
 have s:W=true:=Tb J
 have g:=s;cbv at g;try rw[s]
 try rw[g]
 cbv
 ·refine d (_,_) _ hh fun⟨j,v⟩ e=>?_
  refine ai ?_
  cbv
  all_goals exact J2
 have s:W=false:=Fb J
 have g:=s;cbv at g;try rw[s]
 try rw[g]
 cbv
 obtain⟨FH,hh⟩:=ac hh
 obtain⟨FI,hh⟩:=ac hh
 refine⟨Nb FH,Mb FI,?_⟩
 refine⟨[iA O,iA Q,tA (qInt R)],Gb V,?_⟩
 cbv
 obtain⟨FJ,hh⟩:=ac hh
 refine⟨⟨Ob,Ab⟩,?_⟩
 refine⟨⟨Ob,Wb FJ⟩,?_⟩
 ·refine d (_,_) _ hh fun⟨j,v⟩ e=>?_
  refine aq [((1,0),(1,0)),((12,0),(12,0)),((13,0),(85,0))] ?_
  cbv
  all_goals exact J2
 have p:H=false:=Fb I
 have g:=p;cbv at g;try rw[p]
 try rw[g]
 cbv
 obtain⟨FM,hh⟩:=ac hh
 obtain⟨FN,hh⟩:=ac hh
 refine⟨Nb FM,Mb FN,?_⟩
 obtain⟨⟨EJ,E2,E3⟩,FR,hh⟩:=af hh
 try dsimp only at hh
 refine⟨[iA EJ,iA E2,tA (qInt E3)],Gb FR,?_⟩
 cbv
 obtain⟨FT,hh⟩:=ac hh
 refine⟨⟨Ob,Ab⟩,?_⟩
 refine⟨⟨Ob,Wb FT⟩,?_⟩
 ·refine d (_,_) _ hh fun⟨j,v⟩ e=>?_
  refine aq [((1,0),(1,0)),((12,0),(12,0)),((13,0),(85,0))] ?_
  cbv
  all_goals exact J2
 replace hh:=ifF hh o
 try rw[o]
 cbv
 ·refine C _ _ hh fun j e=>?_
  refine ai ?_
  cbv
  all_goals exact J1
 replace hh:=ifF hh c
 try rw[c]
 cbv
 obtain⟨S,w,y⟩:=af hh
 refine ay hC eok mixed (fun n (i:(List GOcc)×Int)=>aJ.l2 k p1 p2 n i.1 i.2)
  (fun⟨K,X⟩=>(⟨[(0,iA p0),(1,.ref (1,0) 1 0 (len (qGOcc p1))),(2,tA (qBool p2)),(8,.ref (12,0) 1 0 (len (qGOcc b))),(9,.ref (13,0) 1 0 (len (qGOcc K))),(11,iA X),(1000001,.ref (1,0) 1 0 (len (qGOcc p1)))],[((1,0),.arr 1 3 (qGOcc p1)),((12,0),.arr 1 3 (qGOcc b)),((13,0),.arr 1 3 (qGOcc K))]⟩:St))
  (fun(L:List GOcc)=>(⟨[(8,.ref (12,0) 1 0 (len (qGOcc b))),(9,.ref (13,0) 1 0 (len (qGOcc L))),(1000001,.ref (1,0) 1 0 (len (qGOcc p1)))],[((1,0),.arr 1 3 (qGOcc p1)),((12,0),.arr 1 3 (qGOcc b)),((13,0),.arr 1 3 (qGOcc L))]⟩:St)) (fun x=>x) (.exit 3)
  (i0:=(_,_)) w (fun _=>rfl) ?_ ?_ ?_
 ·rintro⟨j,v⟩ e
  refine ai ?_
  cbv
  all_goals exact J2
 rintro L hx
 subst S
 have hh:=y
 cbv
 exact Eb
 rintro n ⟨K,X⟩ N1 D1 hh d C Fp
 try dsimp only at hh
 unfold aJ.l2 at hh
 cbv
 refine bcs (fun t=>?_) (fun t=>?_)
 replace hh:=ifT hh t
 try rw[t]
 cbv
 obtain⟨FW,hh⟩:=ac hh
 obtain⟨M,F4,hh⟩:=af hh
 refine⟨[bA M],Nb FW,Gb F4,?_⟩
 cbv
 replace hh:=aG hh
 rcases hh with⟨N,hh⟩|⟨N,hh⟩
 have u:M=true:=Tb N
 have g:=u;cbv at g;try rw[u]
 try rw[g]
 cbv
 first|rw[c]|(have g:=c;cbv at g;rw[g])
 cbv
 ·refine d (_,_) _ hh fun⟨j,v⟩ e=>?_
  refine ai ?_
  cbv
  all_goals exact J2
 have u:M=false:=Fb N
 have g:=u;cbv at g;try rw[u]
 try rw[g]
 cbv
 obtain⟨F5,hh⟩:=ac hh
 obtain⟨F6,hh⟩:=ac hh
 refine⟨Nb F5,Mb F6,?_⟩
 obtain⟨⟨Ff,Fj,Fk⟩,F7,hh⟩:=af hh
 try dsimp only at hh
 refine⟨[iA Ff,iA Fj,tA (qInt Fk)],Gb F7,?_⟩
 cbv
 obtain⟨F8,hh⟩:=ac hh
 refine⟨⟨Ob,Ab⟩,?_⟩
 refine⟨⟨Ob,Wb F8⟩,?_⟩
 ·refine d (_,_) _ hh fun⟨j,v⟩ e=>?_
  refine aq [((1,0),(1,0)),((12,0),(12,0)),((13,0),(85,0))] ?_
  cbv
  all_goals exact J2
 replace hh:=ifF hh t
 try rw[t]
 cbv
 ·refine C _ _ hh fun j e=>?_
  refine ai ?_
  cbv
  all_goals exact J1
 rintro n ⟨T,Fm⟩ N1 D1 hh d C Fp
 try dsimp only at hh
 unfold aJ.l0 at hh
 cbv
 refine bcs (fun D=>?_) (fun D=>?_)
 replace hh:=ifT hh D
 try rw[D]
 cbv
 obtain⟨Gl,hh⟩:=ac hh
 obtain⟨Gm,Gn,hh⟩:=af hh
 refine⟨[bA Gm],Nb Gl,Gb Gn,?_⟩
 cbv
 refine bcs (fun F=>?_) (fun F=>?_)
 replace hh:=ifT hh F
 try rw[F]
 cbv
 obtain⟨Gp,hh⟩:=ac hh
 obtain⟨Gq,hh⟩:=ac hh
 refine⟨Nb Gp,Mb Gq,?_⟩
 obtain⟨⟨F9,Ga,Gc⟩,Gr,hh⟩:=af hh
 try dsimp only at hh
 refine⟨[iA F9,iA Ga,tA (qInt Gc)],Gb Gr,?_⟩
 cbv
 obtain⟨Gs,hh⟩:=ac hh
 refine⟨⟨Ob,Ab⟩,?_⟩
 refine⟨⟨Ob,Wb Gs⟩,?_⟩
 ·refine d (_,_) _ hh fun⟨j,v⟩ e=>?_
  refine aq [((1,0),(1,0)),((12,0),(30,0)),((13,0),(13,0))] ?_
  cbv
  all_goals exact J2
 replace hh:=ifF hh F
 try rw[F]
 cbv
 ·refine d (_,_) _ hh fun⟨j,v⟩ e=>?_
  refine ai ?_
  cbv
  all_goals exact J2
 replace hh:=ifF hh D
 try rw[D]
 cbv
 ·refine C _ _ hh fun j e=>?_
  refine ai ?_
  cbv
  all_goals exact J1

theorem xV {p0:Int} {p1:Int} {r:Int} (hh:mI.f p0 p1=some r):ak P 289 [iA p0,iA p1] [hA,hA] (iA r):=by
 unfold mI.f at hh
 refine go (ts:=[(4,none)]) (rm:=[.own]) (pm:=[.skip,.skip]) Tryz.func289 ?_
 unhygienic intros
 cbv
 refine bcs (fun b=>?_) (fun b=>?_)
 replace hh:=ifT hh b
 try rw[b]
 cbv
 exact Eb
 replace hh:=ifF hh b
 try rw[b]
 cbv
 exact Eb

theorem vZ {k:Nat} {p0:List Int} {p1:List Int} {r:List Int} (hh:bZ.f k p0 p1=some r):ak P 290 [tA (qInt p0),tA (qInt p1)] [hA,hA] (oA 1 (qInt r)):=by
 unfold bZ.f at hh
 refine go (ts:=[(4,none)]) (rm:=[.own]) (pm:=[.skip,.skip]) Tryz.func290 ?_
 unhygienic intros
 cbv
 obtain⟨o1,E3,Ff⟩:=af hh
 refine ay hC eok mixed (fun n (i:(List Int)×Int×Int)=>bZ.l0 k p0 p1 n i.1 i.2.1 i.2.2)
  (fun⟨u,A,s⟩=>(⟨[(0,tA (qInt p0)),(1,tA (qInt p1)),(5,.ref (8,0) 1 0 (len (qInt u))),(6,iA A),(7,iA s)],[((8,0),.arr 1 1 (qInt u))]⟩:St))
  (fun(v:List Int)=>(⟨[(5,.ref (8,0) 1 0 (len (qInt v)))],[((8,0),.arr 1 1 (qInt v))]⟩:St)) (fun x=>x) (.exit 0)
  (i0:=(_,_,_)) E3 (fun _=>rfl) ?_ ?_ ?_
 ·rintro⟨t,w,y⟩ e
  refine ai ?_
  cbv
  all_goals exact J3
 rintro v hx
 subst o1
 have hh:=Ff
 cbv
 exact Eb
 rintro n ⟨u,A,s⟩ N1 D1 hh o Fj Fx
 try dsimp only at hh
 unfold bZ.l0 at hh
 cbv
 refine bcs (fun b=>?_) (fun b=>?_)
 replace hh:=ifT hh b
 try rw[b]
 cbv
 replace hh:=aG hh
 rcases hh with⟨z,hh⟩|⟨z,hh⟩
 have p:(lt s (cast (len (qInt p1))))=true:=Tb z
 have g:=p;cbv at g;try rw[p]
 try rw[g]
 cbv
 first|rw[b]|(have g:=b;cbv at g;rw[g])
 cbv
 obtain⟨Fk,hh⟩:=ac hh
 obtain⟨Fm,Fo,hh⟩:=af hh
 refine⟨[iA Fm],Nb Fk,Gb Fo,?_⟩
 cbv
 obtain⟨Fp,hh⟩:=ac hh
 obtain⟨Fq,Fr,hh⟩:=af hh
 refine⟨[iA Fq],Nb Fp,Gb Fr,?_⟩
 cbv
 refine bcs (fun d=>?_) (fun d=>?_)
 replace hh:=ifT hh d
 try rw[d]
 cbv
 obtain⟨B,hh⟩:=ac hh
 obtain⟨C,D,hh⟩:=af hh
 refine⟨[iA C],Nb B,Gb D,?_⟩
 cbv
 obtain⟨F,hh⟩:=ac hh
 refine⟨⟨Ob,Ab⟩,?_⟩
 refine⟨⟨Ob,Wb F⟩,?_⟩
 ·refine o (_,_,_) _ hh fun⟨t,w,y⟩ e=>?_
  refine aq [((8,0),(46,0))] ?_
  cbv
  all_goals exact J3
 replace hh:=ifF hh d
 try rw[d]
 cbv
 first|rw[b]|(have g:=b;cbv at g;rw[g])
 cbv
 obtain⟨G,hh⟩:=ac hh
 obtain⟨H,I,hh⟩:=af hh
 refine⟨[iA H],Nb G,Gb I,?_⟩
 cbv
 obtain⟨J,hh⟩:=ac hh
 obtain⟨K,L,hh⟩:=af hh
 refine⟨[iA K],Nb J,Gb L,?_⟩
 cbv
 refine bcs (fun j=>?_) (fun j=>?_)
 replace hh:=ifT hh j
 try rw[j]
 cbv
 obtain⟨M,hh⟩:=ac hh
 obtain⟨N,O,hh⟩:=af hh
 refine⟨[iA N],Nb M,Gb O,?_⟩
 cbv
 obtain⟨Q,hh⟩:=ac hh
 refine⟨⟨Ob,Ab⟩,?_⟩
 refine⟨⟨Ob,Wb Q⟩,?_⟩
 ·refine o (_,_,_) _ hh fun⟨t,w,y⟩ e=>?_
  refine aq [((8,0),(72,0))] ?_
  cbv
  all_goals exact J3
 replace hh:=ifF hh j
 try rw[j]
 cbv
 obtain⟨R,hh⟩:=ac hh
 obtain⟨S,T,hh⟩:=af hh
 refine⟨[iA S],Nb R,Gb T,?_⟩
 cbv
 obtain⟨U,hh⟩:=ac hh
 refine⟨⟨Ob,Ab⟩,?_⟩
 refine⟨⟨Ob,Wb U⟩,?_⟩
 ·refine o (_,_,_) _ hh fun⟨t,w,y⟩ e=>?_
  refine aq [((8,0),(72,0))] ?_
  cbv
  all_goals exact J3
 have p:(lt s (cast (len (qInt p1))))=false:=Fb z
 have g:=p;cbv at g;try rw[p]
 try rw[g]
 cbv
 obtain⟨V,hh⟩:=ac hh
 obtain⟨W,X,hh⟩:=af hh
 refine⟨[iA W],Nb V,Gb X,?_⟩
 cbv
 obtain⟨Y,hh⟩:=ac hh
 refine⟨⟨Ob,Ab⟩,?_⟩
 refine⟨⟨Ob,Wb Y⟩,?_⟩
 ·refine o (_,_,_) _ hh fun⟨t,w,y⟩ e=>?_
  refine aq [((8,0),(46,0))] ?_
  cbv
  all_goals exact J3
 replace hh:=ifF hh b
 try rw[b]
 cbv
 refine bcs (fun c=>?_) (fun c=>?_)
 replace hh:=ifT hh c
 try rw[c]
 cbv
 first|rw[c]|(have g:=c;cbv at g;rw[g])
 cbv
 first|rw[b]|(have g:=b;cbv at g;rw[g])
 cbv
 first|rw[b]|(have g:=b;cbv at g;rw[g])
 cbv
 obtain⟨Z,hh⟩:=ac hh
 obtain⟨ek,EJ,hh⟩:=af hh
 refine⟨[iA ek],Nb Z,Gb EJ,?_⟩
 cbv
 obtain⟨E2,hh⟩:=ac hh
 refine⟨⟨Ob,Ab⟩,?_⟩
 refine⟨⟨Ob,Wb E2⟩,?_⟩
 ·refine o (_,_,_) _ hh fun⟨t,w,y⟩ e=>?_
  refine aq [((8,0),(72,0))] ?_
  cbv
  all_goals exact J3
 replace hh:=ifF hh c
 try rw[c]
 cbv
 ·refine Fj _ _ hh fun t e=>?_
  refine ai ?_
  cbv
  all_goals exact J1

theorem qk {k:Nat} {p0:GOcc} {p1:GOcc} {r:GOcc} (hh:fI.f k p0 p1=some r):ak P 274 [.agg [iA p0.From,iA p0.To,tA (qInt p0.Ids)],.agg [iA p1.From,iA p1.To,tA (qInt p1.Ids)]] [hA,hA] (.agg [iA r.From,iA r.To,oA 1 (qInt r.Ids)]):=by
 obtain⟨p0a,p0b,p0c⟩:=p0
 obtain⟨p1a,p1b,p1c⟩:=p1
 unfold fI.f at hh
 refine go (ts:=[(4,some 67)]) (rm:=[.own]) (pm:=[.skip,.skip]) Tryz.func274 ?_
 unhygienic intros
 cbv
 obtain⟨j,b,hh⟩:=af hh
 refine ag hF (qX hQ b) ?_
 cbv
 obtain⟨o,c,hh⟩:=af hh
 refine ag hF (xV hQ c) ?_
 cbv
 obtain⟨p,d,hh⟩:=af hh
 refine ag hF (vZ hQ d) ?_
 cbv
 exact Eb

theorem jS {k:Nat} {p0:Int} {p1:List GOcc} {p2:GOcc} {r:List GOcc} (hh:aZ.f k p0 p1 p2=some r):ak P 261 [iA p0,tA (qGOcc p1),.agg [iA p2.From,iA p2.To,tA (qInt p2.Ids)]] [hA,hA,hA] (oA 3 (qGOcc r)):=by
 obtain⟨p2a,p2b,p2c⟩:=p2
 unfold aZ.f at hh
 refine go (ts:=[(6,none)]) (rm:=[.own]) (pm:=[.skip,.skip,.skip]) Tryz.func261 ?_
 unhygienic intros
 cbv
 refine bcs (fun d=>?_) (fun d=>?_)
 replace hh:=ifT hh d
 try rw[d]
 cbv
 exact Eb
 replace hh:=ifF hh d
 try rw[d]
 cbv
 refine bcs (fun j=>?_) (fun j=>?_)
 replace hh:=ifT hh j
 try rw[j]
 cbv
 obtain⟨I,o,p⟩:=af hh
 refine ay hC eok mixed (fun n (i:Int×Int×(List Int)×Int)=>aZ.l0 k p1 n i.1 i.2.1 i.2.2.1 i.2.2.2)
  (fun⟨z,A,B,C⟩=>(⟨[(1,tA (qGOcc p1)),(7,.ref (11,0) 1 0 (len (qGOcc ([]:List GOcc)))),(8,.mptr (8,0) 1 0 0),(9,iA C)],[((8,0),.box 1 [iA z,iA A,tA (qInt B)]),((11,0),.arr 1 3 (qGOcc ([]:List GOcc)))]⟩:St))
  (fun(⟨D,F,G⟩:Int×Int×(List Int))=>(⟨[(7,.ref (11,0) 1 0 (len (qGOcc ([]:List GOcc)))),(8,.mptr (8,0) 1 0 0)],[((8,0),.box 1 [iA D,iA F,tA (qInt G)]),((11,0),.arr 1 3 (qGOcc ([]:List GOcc)))]⟩:St)) (fun x=>x) (.exit 0)
  (i0:=(_,_,_,_)) o (fun _=>rfl) ?_ ?_ ?_
 ·rintro⟨s,y,T,t3⟩ e
  refine ai ?_
  cbv
  all_goals exact J4
 rintro⟨D,F,G⟩ hx
 subst I
 have hh:=p
 cbv
 obtain⟨U,hh⟩:=ac hh
 refine⟨⟨Ob,Ab⟩,?_⟩
 refine⟨⟨Ob,Wb U⟩,?_⟩
 exact Eb
 rintro n ⟨z,A,B,C⟩ N1 D1 hh t u V
 try dsimp only at hh
 unfold aZ.l0 at hh
 cbv
 refine bcs (fun b=>?_) (fun b=>?_)
 replace hh:=ifT hh b
 try rw[b]
 cbv
 obtain⟨W,hh⟩:=ac hh
 obtain⟨⟨J,K,L⟩,X,hh⟩:=af hh
 try dsimp only at hh
 refine⟨[iA J,iA K,tA (qInt L)],Nb W,Gb X,?_⟩
 cbv
 obtain⟨⟨M,N,O⟩,Y,hh⟩:=af hh
 try dsimp only at hh
 have fc:=ak.frz (r':=.agg [iA M,iA N,tA (qInt O)]) (qk hQ Y) (by cases hQ;simp)
 try dsimp only at fc
 refine ag hF fc ?_
 cbv
 ·refine t (_,_,_,_) _ hh fun⟨s,y,T,t3⟩ e=>?_
  refine ai ?_
  cbv
  all_goals exact J4
 replace hh:=ifF hh b
 try rw[b]
 cbv
 ·refine u (_,_,_) _ hh fun⟨s,y,T⟩ e=>?_
  refine ai ?_
  cbv
  all_goals exact J3
 replace hh:=ifF hh j
 try rw[j]
 cbv
 obtain⟨I,o,p⟩:=af hh
 refine ay hC eok mixed (fun n (i:(List GOcc)×Int)=>aZ.l1 k p1 (⟨p2a,p2b,p2c⟩:GOcc) n i.1 i.2)
  (fun⟨v,H⟩=>(⟨[(1,tA (qGOcc p1)),(5,.mptr (5,0) 1 0 0),(7,.ref (11,0) 1 0 (len (qGOcc v))),(10,iA H)],[((5,0),.box 1 [iA p2a,iA p2b,tA (qInt p2c)]),((11,0),.arr 1 3 (qGOcc v))]⟩:St))
  (fun(w:List GOcc)=>(⟨[(7,.ref (11,0) 1 0 (len (qGOcc w)))],[((11,0),.arr 1 3 (qGOcc w))]⟩:St)) (fun x=>x) (.exit 2)
  (i0:=(_,_)) o (fun _=>rfl) ?_ ?_ ?_
 ·rintro⟨s,y⟩ e
  refine ai ?_
  cbv
  all_goals exact J2
 rintro w hx
 subst I
 have hh:=p
 cbv
 exact Eb
 rintro n ⟨v,H⟩ N1 D1 hh t u V
 try dsimp only at hh
 unfold aZ.l1 at hh
 cbv
 refine bcs (fun c=>?_) (fun c=>?_)
 replace hh:=ifT hh c
 try rw[c]
 cbv
 obtain⟨Z,hh⟩:=ac hh
 obtain⟨⟨Q,R,S⟩,ek,hh⟩:=af hh
 try dsimp only at hh
 refine⟨[iA Q,iA R,tA (qInt S)],Nb Z,Gb ek,?_⟩
 cbv
 obtain⟨⟨Fk,Fm,Fo⟩,EJ,hh⟩:=af hh
 try dsimp only at hh
 have fc:=qk hQ EJ
 try dsimp only at fc
 refine ag hF fc ?_
 cbv
 obtain⟨Fp,E2,hh⟩:=af hh
 refine⟨Ob,?_⟩
 refine ag hF (iT hQ E2) ?_
 cbv
 ·refine t (_,_) _ hh fun⟨s,y⟩ e=>?_
  refine aq [((5,0),(5,0)),((11,0),(48,0))] ?_
  cbv
  all_goals exact J2
 replace hh:=ifF hh c
 try rw[c]
 cbv
 ·refine u _ _ hh fun s e=>?_
  refine ai ?_
  cbv
  all_goals exact J1

theorem rq {k:Nat} {p0:Int} {p1:List GOcc} {p2:List GOcc} {p3:GOcc} {r:(List GOcc)×(List GOcc)×(List GOcc)} (hh:gu.f k p0 p1 p2 p3=some r):ak P 258 [iA p0,oA 3 (qGOcc p1),oA 3 (qGOcc p2),.agg [iA p3.From,iA p3.To,tA (qInt p3.Ids)]] [hA,hA,hA,hA] (.tup [oA 3 (qGOcc r.1),oA 3 (qGOcc r.2.1),oA 3 (qGOcc r.2.2)]):=by
 obtain⟨p3a,p3b,p3c⟩:=p3
 unfold gu.f at hh
 refine go (ts:=[(8,none),(9,none),(10,none)]) (rm:=[.own,.own,.own]) (pm:=[.skip,.skip,.skip,.skip]) Tryz.func258 ?_
 unhygienic intros
 cbv
 obtain⟨z,p,hh⟩:=af hh
 refine ag hF (rB hQ p) ?_
 cbv
 obtain⟨⟨s,t⟩,u,hh⟩:=af hh
 try dsimp only at hh
 refine⟨Ob,?_⟩
 have fc:=mw hQ u
 try dsimp only at fc
 refine ag hF fc ?_
 cbv
 obtain⟨A,v,hh⟩:=af hh
 refine ag hF (jS hQ v) ?_
 cbv
 refine bcs (fun b=>?_) (fun b=>?_)
 replace hh:=ifT hh b
 try rw[b]
 cbv
 obtain⟨w,j,hh⟩:=af hh
 refine ag hF (iT hQ j) ?_
 cbv
 exact Eb
 replace hh:=ifF hh b
 try rw[b]
 cbv
 refine bcs (fun c=>?_) (fun c=>?_)
 replace hh:=ifT hh c
 try rw[c]
 cbv
 exact Eb
 replace hh:=ifF hh c
 try rw[c]
 cbv
 refine bcs (fun d=>?_) (fun d=>?_)
 replace hh:=ifT hh d
 try rw[d]
 cbv
 obtain⟨y,o,hh⟩:=af hh
 refine ag hF (iT hQ o) ?_
 cbv
 exact Eb
 replace hh:=ifF hh d
 try rw[d]
 cbv
 exact Eb

theorem xS {k:Nat} {p0:Int} {p1:aB} {p2:List GOcc} {p3:List GOcc} {r:aB×(List GOcc)} (hh:ck.f k p0 p1 p2 p3=some r):ak P 243 [iA p0,.agg [oA 3 (qGOcc p1.Left),oA 3 (qGOcc p1.Right)],tA (qGOcc p2),tA (qGOcc p3)] [hA,hA,hA,hA] (.tup [.agg [oA 3 (qGOcc r.1.Left),oA 3 (qGOcc r.1.Right)],oA 3 (qGOcc r.2)]):=by
 obtain⟨p1a,p1b⟩:=p1
 unfold ck.f at hh
 refine go (ts:=[(8,some 171),(9,none)]) (rm:=[.own,.own]) (pm:=[.skip,.skip,.skip,.skip]) Tryz.func243 ?_
 unhygienic intros
 cbv
 obtain⟨L,d,j⟩:=af hh
 refine ay hC eok mixed (fun n (i:(List GOcc)×(List GOcc)×(List GOcc)×Int)=>ck.l0 k p0 p2 n i.1 i.2.1 i.2.2.1 i.2.2.2)
  (fun⟨o,p,s,J⟩=>(⟨[(0,iA p0),(2,tA (qGOcc p2)),(3,tA (qGOcc p3)),(5,.mptr (5,0) 1 0 0),(8,.mptr (8,0) 1 0 0),(10,.ref (19,0) 1 0 (len (qGOcc s))),(11,iA J),(1000001,.agg [hA,hA])],[((1,0),.arr 1 3 (qGOcc o)),((1,1),.arr 1 3 (qGOcc p)),((5,0),.box 1 [.ref (1,0) 1 0 (len (qGOcc o)),.ref (1,1) 1 0 (len (qGOcc p))]),((8,0),.box 1 [.lit (.slice none 0 0),.lit (.slice none 0 0)]),((19,0),.arr 1 3 (qGOcc s))]⟩:St))
  (fun(⟨t,u,v⟩:(List GOcc)×(List GOcc)×(List GOcc))=>(⟨[(0,iA p0),(3,tA (qGOcc p3)),(5,.mptr (5,0) 1 0 0),(8,.mptr (8,0) 1 0 0),(10,.ref (19,0) 1 0 (len (qGOcc v))),(1000001,.agg [hA,hA])],[((1,0),.arr 1 3 (qGOcc t)),((1,1),.arr 1 3 (qGOcc u)),((5,0),.box 1 [.ref (1,0) 1 0 (len (qGOcc t)),.ref (1,1) 1 0 (len (qGOcc u))]),((8,0),.box 1 [.lit (.slice none 0 0),.lit (.slice none 0 0)]),((19,0),.arr 1 3 (qGOcc v))]⟩:St)) (fun x=>x) (.exit 0)
  (i0:=(_,_,_,_)) d (fun _=>rfl) ?_ ?_ ?_
 ·rintro⟨w,y,z,M⟩ e
  refine ai ?_
  cbv
  all_goals exact J4
 rintro⟨t,u,v⟩ hx
 subst L
 have hh:=j
 cbv
 obtain⟨L,d,j⟩:=af hh
 refine ay hC eok mixed (fun n (i:(List GOcc)×(List GOcc)×(List GOcc)×Int)=>ck.l1 k p0 p3 n i.1 i.2.1 i.2.2.1 i.2.2.2)
  (fun⟨A,B,C,K⟩=>(⟨[(0,iA p0),(3,tA (qGOcc p3)),(5,.mptr (5,0) 1 0 0),(8,.mptr (8,0) 1 0 0),(10,.ref (19,0) 1 0 (len (qGOcc C))),(15,iA K),(1000001,.agg [hA,hA])],[((1,0),.arr 1 3 (qGOcc A)),((1,1),.arr 1 3 (qGOcc B)),((5,0),.box 1 [.ref (1,0) 1 0 (len (qGOcc A)),.ref (1,1) 1 0 (len (qGOcc B))]),((8,0),.box 1 [.lit (.slice none 0 0),.lit (.slice none 0 0)]),((19,0),.arr 1 3 (qGOcc C))]⟩:St))
  (fun(⟨D,F,G⟩:(List GOcc)×(List GOcc)×(List GOcc))=>(⟨[(5,.mptr (5,0) 1 0 0),(8,.mptr (8,0) 1 0 0),(10,.ref (19,0) 1 0 (len (qGOcc G))),(1000001,.agg [hA,hA])],[((1,0),.arr 1 3 (qGOcc D)),((1,1),.arr 1 3 (qGOcc F)),((5,0),.box 1 [.ref (1,0) 1 0 (len (qGOcc D)),.ref (1,1) 1 0 (len (qGOcc F))]),((8,0),.box 1 [.lit (.slice none 0 0),.lit (.slice none 0 0)]),((19,0),.arr 1 3 (qGOcc G))]⟩:St)) (fun x=>x) (.exit 2)
  (i0:=(_,_,_,_)) d (fun _=>rfl) ?_ ?_ ?_
 ·rintro⟨w,y,z,M⟩ e
  refine ai ?_
  cbv
  all_goals exact J4
 rintro⟨D,F,G⟩ hx
 subst L
 have hh:=j
 cbv
 exact Eb
 rintro n ⟨A,B,C,K⟩ N1 D1 hh H I U
 try dsimp only at hh
 unfold ck.l1 at hh
 cbv
 refine bcs (fun b=>?_) (fun b=>?_)
 replace hh:=ifT hh b
 try rw[b]
 cbv
 obtain⟨V,hh⟩:=ac hh
 obtain⟨⟨N,O,Q⟩,W,hh⟩:=af hh
 try dsimp only at hh
 refine⟨[iA N,iA O,tA (qInt Q)],Nb V,Gb W,?_⟩
 cbv
 obtain⟨⟨E3,Ff,Fj⟩,X,hh⟩:=af hh
 try dsimp only at hh
 have fc:=rq hQ X
 try dsimp only at fc
 refine ag hF fc ?_
 cbv
 obtain⟨Fr,Y,hh⟩:=af hh
 refine⟨Ob,?_⟩
 refine ag hF (c9 hQ Y) ?_
 cbv
 ·refine H (_,_,_,_) _ hh fun⟨w,y,z,M⟩ e=>?_
  refine aq [((1,0),(62,0)),((1,1),(62,1)),((5,0),(5,0)),((8,0),(8,0)),((19,0),(71,0))] ?_
  cbv
  all_goals exact J4
 replace hh:=ifF hh b
 try rw[b]
 cbv
 ·refine I (_,_,_) _ hh fun⟨w,y,z⟩ e=>?_
  refine ai ?_
  cbv
  all_goals exact J3
 rintro n ⟨o,p,s,J⟩ N1 D1 hh H I U
 try dsimp only at hh
 unfold ck.l0 at hh
 cbv
 refine bcs (fun c=>?_) (fun c=>?_)
 replace hh:=ifT hh c
 try rw[c]
 cbv
 obtain⟨Z,hh⟩:=ac hh
 obtain⟨⟨R,S,T⟩,ek,hh⟩:=af hh
 try dsimp only at hh
 refine⟨[iA R,iA S,tA (qInt T)],Nb Z,Gb ek,?_⟩
 cbv
 obtain⟨⟨Fk,Fm,Fo⟩,EJ,hh⟩:=af hh
 try dsimp only at hh
 have fc:=rq hQ EJ
 try dsimp only at fc
 refine ag hF fc ?_
 cbv
 obtain⟨Fu,E2,hh⟩:=af hh
 refine⟨Ob,?_⟩
 refine ag hF (c9 hQ E2) ?_
 cbv
 ·refine H (_,_,_,_) _ hh fun⟨w,y,z,M⟩ e=>?_
  refine aq [((1,0),(36,1)),((1,1),(36,0)),((5,0),(5,0)),((8,0),(8,0)),((19,0),(45,0))] ?_
  cbv
  all_goals exact J4
 replace hh:=ifF hh c
 try rw[c]
 cbv
 ·refine I (_,_,_) _ hh fun⟨w,y,z⟩ e=>?_
  refine ai ?_
  cbv
  all_goals exact J3

end Go.Proofs.YtlbnmldopjadoaaGreat
