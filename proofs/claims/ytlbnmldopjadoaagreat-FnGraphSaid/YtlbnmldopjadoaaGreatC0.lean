/- The functions of this program do what the plain ones do. -/
import Derived.Test.YtlbnmldopjadoaaGreatN
import Derived.Test.YtlbnmldopjadoaaGreatVE
import Derived.Test.YtlbnmldopjadoaaGreatX
namespace Go.Proofs.YtlbnmldopjadoaaGreat
open Go Go.Vm
set_option linter.unusedVariables false
set_option maxHeartbeats 4000000
set_option maxRecDepth 4000
noncomputable abbrev P:Program:=Tryz.prog
variable {qIu8:List Int→Vm.Rows} {qInt:List Int→Vm.Rows} {qGExO:List GEx→Vm.Rows} {qGEx:List GEx→Vm.Rows} {qGEv:List GEv→Vm.Rows} {qGOcc:List GOcc→Vm.Rows} {qGNode:List GNode→Vm.Rows} {qLGOcc:List (List GOcc)→Vm.Rows} {qLInt:List (List Int)→Vm.Rows} {qGOccO:List GOcc→Vm.Rows} {qStr:List ByteArray→Vm.Rows} {qGNodeS:List GNode→Vm.Rows} {qBool:List Bool→Vm.Rows} (hQ:EQ qIu8 qInt qGExO qGEx qGEv qGOcc qGNode qLGOcc qLInt qGOccO qStr qGNodeS qBool)
include hQ
theorem vp {p0:List Int} {r:Gl14Rd} (hh:iV.f p0=some r):ak P 48 [tA (qIu8 p0)] [hA] (.obox [tA (qIu8 r.b),iA r.p]):=by
 unfold iV.f at hh
 refine go (ts:=[(2,none)]) (rm:=[.own]) (pm:=[.skip]) Tryz.func48 ?_
 unhygienic intros
 cbv
 refine bcs (fun c=>?_) (fun c=>?_)
 replace hh:=ifT hh c
 try rw[c]
 cbv
 obtain⟨d,hh⟩:=ac hh
 obtain⟨j,hh⟩:=ac hh
 obtain⟨o,hh⟩:=ac hh
 refine⟨⟨Nb d,Nb j,Nb o,Ab⟩,?_⟩
 exact Eb
 replace hh:=ifF hh c
 try rw[c]
 cbv
 exact Eb

theorem dw {p0:Gl14Rd} {p1:Int} {r:Int×Gl14Rd} (hh:cG.f p0 p1=some r):ak P 117 [.obox [tA (qIu8 p0.b),iA p0.p],iA p1] [.obox [tA (qIu8 r.2.b),iA r.2.p],hA] (iA r.1):=by
 obtain⟨p0a,p0b⟩:=p0
 unfold cG.f at hh
 refine go (ts:=[(4,none)]) (rm:=[.own]) (pm:=[.own,.skip]) Tryz.func117 ?_
 unhygienic intros
 cbv
 refine bcs (fun c=>?_) (fun c=>?_)
 replace hh:=ifT hh c
 try rw[c]
 cbv
 exact Eb
 replace hh:=ifF hh c
 try rw[c]
 cbv
 refine bcs (fun d=>?_) (fun d=>?_)
 replace hh:=ifT hh d
 try rw[d]
 cbv
 exact Eb
 replace hh:=ifF hh d
 try rw[d]
 cbv
 refine bcs (fun j=>?_) (fun j=>?_)
 replace hh:=ifT hh j
 try rw[j]
 cbv
 obtain⟨w,hh⟩:=ac hh
 try dsimp only at w
 obtain⟨F,G,hh⟩:=af hh
 refine⟨[.lit (.int .u8 F)],Nb w,Gb G,?_⟩
 cbv
 obtain⟨y,hh⟩:=ac hh
 refine⟨Wb y,?_⟩
 exact Eb
 replace hh:=ifF hh j
 try rw[j]
 cbv
 obtain⟨o,hh⟩:=ac hh
 try dsimp only at o
 refine⟨Wb o,?_⟩
 obtain⟨s,hh⟩:=ac hh
 try dsimp only at s
 obtain⟨z,A,hh⟩:=af hh
 refine⟨[.lit (.int .u8 z)],Nb s,Gb A,?_⟩
 cbv
 obtain⟨t,hh⟩:=ac hh
 try dsimp only at t
 refine⟨Wb t,?_⟩
 obtain⟨u,hh⟩:=ac hh
 try dsimp only at u
 obtain⟨B,C,hh⟩:=af hh
 refine⟨[.lit (.int .u8 B)],Nb u,Gb C,?_⟩
 cbv
 obtain⟨v,hh⟩:=ac hh
 try dsimp only at v
 refine⟨Wb v,?_⟩
 obtain⟨D,hh⟩:=ac hh
 refine⟨Wb D,?_⟩
 exact Eb

theorem bR {p0:Gl14Rd} {p1:List Int} {r:Int×Gl14Rd} (hh:bB.f p0 p1=some r):ak P 101 [.obox [tA (qIu8 p0.b),iA p0.p],tA (qInt p1)] [.obox [tA (qIu8 r.2.b),iA r.2.p],hA] (iA r.1):=by
 obtain⟨p0a,p0b⟩:=p0
 unfold bB.f at hh
 refine go (ts:=[(4,none)]) (rm:=[.own]) (pm:=[.own,.skip]) Tryz.func101 ?_
 unhygienic intros
 cbv
 obtain⟨⟨o,⟨d,j⟩⟩,s,hh⟩:=af hh
 try dsimp only at hh
 have fc:=dw hQ s
 try dsimp only at fc
 refine ag hF fc ?_
 cbv
 obtain⟨c,hh⟩:=ac hh
 try dsimp only at c
 obtain⟨t,u,hh⟩:=af hh
 refine⟨[iA t],Nb c,Gb u,?_⟩
 cbv
 exact Eb

theorem mA {p0:Int} {r:Int} (hh:gA.f p0=some r):ak P 120 [iA p0] [hA] (iA r):=by
 unfold gA.f at hh
 refine go (ts:=[(2,none)]) (rm:=[.own]) (pm:=[.skip]) Tryz.func120 ?_
 unhygienic intros
 cbv
 refine bcs (fun j=>?_) (fun j=>?_)
 replace hh:=ifT hh j
 try rw[j]
 cbv
 exact Eb
 replace hh:=ifF hh j
 try rw[j]
 cbv
 refine bcs (fun o=>?_) (fun o=>?_)
 replace hh:=ifT hh o
 try rw[o]
 cbv
 exact Eb
 replace hh:=ifF hh o
 try rw[o]
 cbv
 refine bcs (fun p=>?_) (fun p=>?_)
 replace hh:=ifT hh p
 try rw[p]
 cbv
 exact Eb
 replace hh:=ifF hh p
 try rw[p]
 cbv
 refine bcs (fun s=>?_) (fun s=>?_)
 replace hh:=ifT hh s
 try rw[s]
 cbv
 exact Eb
 replace hh:=ifF hh s
 try rw[s]
 cbv
 refine bcs (fun b=>?_) (fun b=>?_)
 replace hh:=ifT hh b
 try rw[b]
 cbv
 exact Eb
 replace hh:=ifF hh b
 try rw[b]
 cbv
 refine bcs (fun c=>?_) (fun c=>?_)
 replace hh:=ifT hh c
 try rw[c]
 cbv
 exact Eb
 replace hh:=ifF hh c
 try rw[c]
 cbv
 refine bcs (fun d=>?_) (fun d=>?_)
 replace hh:=ifT hh d
 try rw[d]
 cbv
 exact Eb
 replace hh:=ifF hh d
 try rw[d]
 cbv
 exact Eb

theorem Ds:∀k:Nat,(∀{p0:Gl14Rd} {p1:Int} {r:GEx×Gl14Rd},bk.f k p0 p1=some r→ak P 138 [.obox [tA (qIu8 p0.b),iA p0.p],iA p1] [.obox [tA (qIu8 r.2.b),iA r.2.p],hA] (.agg [iA r.1.Kind,iA r.1.Sym,iA r.1.N,oA 4 (qGExO r.1.Kids)])):=by
  intro k
  induction k using Nat.strongRecOn with
  |_ k ih=>
  · intro p0 p1 r hh
    cases k with
    |zero=>unfold bk.f at hh;cases hh
    |succ k=>
    obtain⟨p0a,p0b⟩:=p0
    unfold bk.f at hh
    refine go (ts:=[(4,some 25)]) (rm:=[.own]) (pm:=[.own,.skip]) Tryz.func138 ?_
    unhygienic intros
    cbv
    replace hh:=aG hh
    rcases hh with⟨U,hh⟩|⟨U,hh⟩
    have t:(lt 1 p1)=true:=Tb U
    have g:=t;cbv at g;try rw[t]
    try rw[g]
    cbv
    obtain⟨⟨F8,⟨FW,F4⟩⟩,h3,hh⟩:=af hh
    try dsimp only at hh
    have fc:=dw hQ h3
    try dsimp only at fc
    refine ag hF fc ?_
    cbv
    refine bcs (fun u=>?_) (fun u=>?_)
    replace hh:=ifT hh u
    try rw[u]
    cbv
    obtain⟨⟨Ga,⟨F5,F6⟩⟩,h8,hh⟩:=af hh
    try dsimp only at hh
    refine⟨Ob,?_⟩
    have fc:=bR hQ h8
    try dsimp only at fc
    refine ag hF fc ?_
    cbv
    refine⟨4,?_⟩
    cbv
    exact Eb
    replace hh:=ifF hh u
    try rw[u]
    cbv
    obtain⟨⟨c,⟨X,Y⟩⟩,Z,hh⟩:=af hh
    try dsimp only at hh
    refine⟨Ob,?_⟩
    have fc:=bR hQ Z
    try dsimp only at fc
    refine ag hF fc ?_
    cbv
    refine bcs (fun d=>?_) (fun d=>?_)
    replace hh:=ifT hh d
    try rw[d]
    cbv
    obtain⟨⟨s,⟨ek,EJ⟩⟩,E2,hh⟩:=af hh
    try dsimp only at hh
    refine⟨Ob,?_⟩
    have fc:=bR hQ E2
    try dsimp only at fc
    refine ag hF fc ?_
    cbv
    obtain⟨Gf,E3,hh⟩:=af hh
    refine ag hF (mA hQ E3) ?_
    cbv
    obtain⟨V,v,w⟩:=af hh
    refine ay hC eok mixed (fun n (i:(List Int)×Int×(List GEx)×Int)=>bk.l0 k (bk.f k) p1 n i.1 i.2.1 i.2.2.1 i.2.2.2)
     (fun⟨I,J,y,K⟩=>(⟨[(0,.mptr (0,0) 1 0 0),(1,iA p1),(4,.mptr (4,0) 1 0 0),(5,.mptr (5,0) 1 0 0),(6,iA K),(1000000,.mptr (0,0) 1 0 0)],[((0,0),.box 1 [tA (qIu8 I),iA J]),((4,0),.box 1 [iA 0,iA 0,iA 0,.lit (.slice none 0 0)]),((5,0),.box 1 [iA c,iA 0,iA s,.ref (5,53) 1 0 (len (qGExO y))]),((5,53),.arr 1 4 (qGExO y))]⟩:St))
     (fun(⟨z,L,M⟩:(List GEx)×(List Int)×Int)=>(⟨[(4,.mptr (4,0) 1 0 0),(5,.mptr (5,0) 1 0 0),(1000000,.mptr (0,0) 1 0 0)],[((0,0),.box 1 [tA (qIu8 L),iA M]),((4,0),.box 1 [iA 0,iA 0,iA 0,.lit (.slice none 0 0)]),((5,0),.box 1 [iA c,iA 0,iA s,.ref (5,53) 1 0 (len (qGExO z))]),((5,53),.arr 1 4 (qGExO z))]⟩:St)) (fun x=>x) (.exit 0)
     (i0:=(_,_,_,_)) v (fun _=>rfl) ?_ ?_ ?_
    ·rintro⟨A,B,C,W⟩ e
     refine aq [((0,0),(0,0)),((4,0),(4,0)),((5,0),(5,0))] ?_
     cbv
     all_goals exact J4
    rintro⟨z,L,M⟩ hx
    subst V
    have hh:=w
    cbv
    exact Eb
    rintro n ⟨I,J,y,K⟩ N1 D1 hh D F Ff
    try dsimp only at hh
    unfold bk.l0 at hh
    cbv
    refine bcs (fun j=>?_) (fun j=>?_)
    replace hh:=ifT hh j
    try rw[j]
    cbv
    obtain⟨⟨⟨Fj,Fk,Fm,Fo⟩,⟨Fp,Fq⟩⟩,Fr,hh⟩:=af hh
    try dsimp only at hh
    have fc:=(ih k (Nat.lt_succ_self k)) Fr
    try dsimp only at fc
    refine ag hF fc ?_
    cbv
    obtain⟨Fu,hh⟩:=ac hh
    refine⟨⟨Ob,Ab⟩,?_⟩
    refine⟨⟨Ob,Wb Fu⟩,?_⟩
    ·refine D (_,_,_,_) _ hh fun⟨A,B,C,W⟩ e=>?_
     refine aq [((0,0),(0,0)),((4,0),(4,0)),((5,0),(5,0)),((5,53),(43,0))] ?_
     cbv
     all_goals exact J4
    replace hh:=ifF hh j
    try rw[j]
    cbv
    ·refine F (_,_,_) _ hh fun⟨A,B,C⟩ e=>?_
     refine ai ?_
     cbv
     all_goals exact J3
    replace hh:=ifF hh d
    try rw[d]
    cbv
    obtain⟨Gg,Fx,hh⟩:=af hh
    refine ag hF (mA hQ Fx) ?_
    cbv
    obtain⟨V,v,w⟩:=af hh
    refine ay hC eok mixed (fun n (i:(List Int)×Int×(List GEx)×Int)=>bk.l1 k (bk.f k) p1 n i.1 i.2.1 i.2.2.1 i.2.2.2)
     (fun⟨O,Q,G,R⟩=>(⟨[(0,.mptr (0,0) 1 0 0),(1,iA p1),(4,.mptr (4,0) 1 0 0),(5,.mptr (5,0) 1 0 0),(6,iA R),(1000000,.mptr (0,0) 1 0 0)],[((0,0),.box 1 [tA (qIu8 O),iA Q]),((4,0),.box 1 [iA 0,iA 0,iA 0,.lit (.slice none 0 0)]),((5,0),.box 1 [iA c,iA 0,iA 0,.ref (5,53) 1 0 (len (qGExO G))]),((5,53),.arr 1 4 (qGExO G))]⟩:St))
     (fun(⟨H,S,T⟩:(List GEx)×(List Int)×Int)=>(⟨[(4,.mptr (4,0) 1 0 0),(5,.mptr (5,0) 1 0 0),(1000000,.mptr (0,0) 1 0 0)],[((0,0),.box 1 [tA (qIu8 S),iA T]),((4,0),.box 1 [iA 0,iA 0,iA 0,.lit (.slice none 0 0)]),((5,0),.box 1 [iA c,iA 0,iA 0,.ref (5,53) 1 0 (len (qGExO H))]),((5,53),.arr 1 4 (qGExO H))]⟩:St)) (fun x=>x) (.exit 0)
     (i0:=(_,_,_,_)) v (fun _=>rfl) ?_ ?_ ?_
    ·rintro⟨A,B,C,W⟩ e
     refine aq [((0,0),(0,0)),((4,0),(4,0)),((5,0),(5,0))] ?_
     cbv
     all_goals exact J4
    rintro⟨H,S,T⟩ hx
    subst V
    have hh:=w
    cbv
    exact Eb
    rintro n ⟨O,Q,G,R⟩ N1 D1 hh D F Ff
    try dsimp only at hh
    unfold bk.l1 at hh
    cbv
    refine bcs (fun o=>?_) (fun o=>?_)
    replace hh:=ifT hh o
    try rw[o]
    cbv
    obtain⟨⟨⟨Fz,FA,FB,FE⟩,⟨FH,FI⟩⟩,FJ,hh⟩:=af hh
    try dsimp only at hh
    have fc:=(ih k (Nat.lt_succ_self k)) FJ
    try dsimp only at fc
    refine ag hF fc ?_
    cbv
    obtain⟨FM,hh⟩:=ac hh
    refine⟨⟨Ob,Ab⟩,?_⟩
    refine⟨⟨Ob,Wb FM⟩,?_⟩
    ·refine D (_,_,_,_) _ hh fun⟨A,B,C,W⟩ e=>?_
     refine aq [((0,0),(0,0)),((4,0),(4,0)),((5,0),(5,0)),((5,53),(43,0))] ?_
     cbv
     all_goals exact J4
    replace hh:=ifF hh o
    try rw[o]
    cbv
    ·refine F (_,_,_) _ hh fun⟨A,B,C⟩ e=>?_
     refine ai ?_
     cbv
     all_goals exact J3
    have t:(lt 1 p1)=false:=Fb U
    have g:=t;cbv at g;try rw[t]
    try rw[g]
    cbv
    obtain⟨⟨F7,⟨FN,FR⟩⟩,FT,hh⟩:=af hh
    try dsimp only at hh
    refine⟨Ob,?_⟩
    have fc:=bR hQ FT
    try dsimp only at fc
    refine ag hF fc ?_
    cbv
    refine⟨4,?_⟩
    cbv
    exact Eb
theorem sC {k:Nat} {p0:Gl14Rd} {p1:Int} {r:GEx×Gl14Rd} (hh:bk.f k p0 p1=some r):ak P 138 [.obox [tA (qIu8 p0.b),iA p0.p],iA p1] [.obox [tA (qIu8 r.2.b),iA r.2.p],hA] (.agg [iA r.1.Kind,iA r.1.Sym,iA r.1.N,oA 4 (qGExO r.1.Kids)]):=(Ds hQ k) hh


theorem EZ:∀k:Nat,(∀{p0:GEx} {p1:Int} {r:Bool},aC.f k p0 p1=some r→ak P 53 [.agg [iA p0.Kind,iA p0.Sym,iA p0.N,tA (qGEx p0.Kids)],iA p1] [hA,hA] (bA r)):=by
  intro k
  induction k using Nat.strongRecOn with
  |_ k ih=>
  · intro p0 p1 r hh
    cases k with
    |zero=>unfold aC.f at hh;cases hh
    |succ k=>
    obtain⟨p0a,p0b,p0c,p0d⟩:=p0
    unfold aC.f at hh
    refine go (ts:=[(4,none)]) (rm:=[.own]) (pm:=[.skip,.skip]) Tryz.func53 ?_
    unhygienic intros
    cbv
    refine bcs (fun T=>?_) (fun T=>?_)
    replace hh:=ifT hh T
    try rw[T]
    cbv
    exact Eb
    replace hh:=ifF hh T
    try rw[T]
    cbv
    obtain⟨x4,h3,hh⟩:=af hh
    refine ag hF (mA hQ h3) ?_
    cbv
    replace hh:=aG hh
    rcases hh with⟨b6,hh⟩|⟨b6,hh⟩
    have U:(eq x4 (cast (len (qGEx p0d))))=true:=Tb b6
    have g:=U;cbv at g;try rw[U]
    try rw[g]
    cbv
    refine bcs (fun V=>?_) (fun V=>?_)
    replace hh:=ifT hh V
    try rw[V]
    cbv
    exact Eb
    replace hh:=ifF hh V
    try rw[V]
    cbv
    replace hh:=aG hh
    rcases hh with⟨W,hh⟩|⟨W,hh⟩
    have z:(lt p0b 5)=true:=Tb W
    have g:=z;cbv at g;try rw[z]
    try rw[g]
    cbv
    replace hh:=aG hh
    rcases hh with⟨X,hh⟩|⟨X,hh⟩
    have A:(eq p0a 1)=true:=Tb X
    have g:=A;cbv at g;try rw[A]
    try rw[g]
    cbv
    refine bcs (fun c=>?_) (fun c=>?_)
    replace hh:=ifT hh c
    try rw[c]
    cbv
    refine bcs (fun B=>?_) (fun B=>?_)
    replace hh:=ifT hh B
    try rw[B]
    cbv
    exact Eb
    replace hh:=ifF hh B
    try rw[B]
    cbv
    refine bcs (fun C=>?_) (fun C=>?_)
    replace hh:=ifT hh C
    try rw[C]
    cbv
    exact Eb
    replace hh:=ifF hh C
    try rw[C]
    cbv
    first|rw[c]|(have g:=c;cbv at g;rw[g])
    cbv
    obtain⟨M,j,b⟩:=af hh
    refine ay hC eok mixed (aC.l0 k (aC.f k) (⟨p0a,p0b,p0c,p0d⟩:GEx) p1)
     (fun Fz=>(⟨[(1,iA p1),(2,.mptr (2,0) 1 0 0),(5,iA Fz)],[((2,0),.box 1 [iA p0a,iA p0b,iA p0c,tA (qGEx p0d)])]⟩:St))
     (fun(_:Unit)=>(⟨[],[]⟩:St)) .ok (.exit 0)
     (i0:=_) j (fun _=>rfl) ?_ ?_ ?_
    ·rintro O e
     refine ai ?_
     cbv
     all_goals exact J1
    rintro _ hx
    subst M
    have hh:=b
    cbv
    exact Eb
    rintro n Fz N1 D1 hh o p s
    unfold aC.l0 at hh
    cbv
    refine bcs (fun D=>?_) (fun D=>?_)
    replace hh:=ifT hh D
    try rw[D]
    cbv
    obtain⟨Gf,hh⟩:=ac hh
    obtain⟨⟨FM,FN,FR,FT⟩,Gg,hh⟩:=af hh
    try dsimp only at hh
    refine⟨[iA FM,iA FN,iA FR,tA (qGEx FT)],Nb Gf,Gb Gg,?_⟩
    cbv
    obtain⟨FA,Gh,hh⟩:=af hh
    refine ag hF ((ih k (Nat.lt_succ_self k)) Gh) ?_
    cbv
    replace hh:=aG hh
    rcases hh with⟨Y,hh⟩|⟨Y,hh⟩
    have F:FA=true:=Tb Y
    have g:=F;cbv at g;try rw[F]
    try rw[g]
    cbv
    ·refine o _ _ hh fun O e=>?_
     refine ai ?_
     cbv
     all_goals exact J1
    have F:FA=false:=Fb Y
    have g:=F;cbv at g;try rw[F]
    try rw[g]
    cbv
    cases hh
    have hh:some _=some _:=b
    refine s _ _ ?_
    cbv
    exact Eb
    replace hh:=ifF hh D
    try rw[D]
    cbv
    ·refine p () _ hh fun _ e=>?_
     refine ai ?_
     cbv
     all_goals exact J0
    replace hh:=ifF hh c
    try rw[c]
    cbv
    first|rw[c]|(have g:=c;cbv at g;rw[g])
    cbv
    replace hh:=aG hh
    rcases hh with⟨Z,hh⟩|⟨Z,hh⟩
    have G:(eq p0c 0)=true:=Tb Z
    have g:=G;cbv at g;try rw[G]
    try rw[g]
    cbv
    obtain⟨M,j,b⟩:=af hh
    refine ay hC eok mixed (aC.l1 k (aC.f k) (⟨p0a,p0b,p0c,p0d⟩:GEx) p1)
     (fun FB=>(⟨[(1,iA p1),(2,.mptr (2,0) 1 0 0),(5,iA FB)],[((2,0),.box 1 [iA p0a,iA p0b,iA p0c,tA (qGEx p0d)])]⟩:St))
     (fun(_:Unit)=>(⟨[],[]⟩:St)) .ok (.exit 0)
     (i0:=_) j (fun _=>rfl) ?_ ?_ ?_
    ·rintro O e
     refine ai ?_
     cbv
     all_goals exact J1
    rintro _ hx
    subst M
    have hh:=b
    cbv
    exact Eb
    rintro n FB N1 D1 hh o p s
    unfold aC.l1 at hh
    cbv
    refine bcs (fun H=>?_) (fun H=>?_)
    replace hh:=ifT hh H
    try rw[H]
    cbv
    obtain⟨Gi,hh⟩:=ac hh
    obtain⟨⟨FW,F4,F5,F6⟩,Gj,hh⟩:=af hh
    try dsimp only at hh
    refine⟨[iA FW,iA F4,iA F5,tA (qGEx F6)],Nb Gi,Gb Gj,?_⟩
    cbv
    obtain⟨FE,Gk,hh⟩:=af hh
    refine ag hF ((ih k (Nat.lt_succ_self k)) Gk) ?_
    cbv
    replace hh:=aG hh
    rcases hh with⟨ek,hh⟩|⟨ek,hh⟩
    have I:FE=true:=Tb ek
    have g:=I;cbv at g;try rw[I]
    try rw[g]
    cbv
    ·refine o _ _ hh fun O e=>?_
     refine ai ?_
     cbv
     all_goals exact J1
    have I:FE=false:=Fb ek
    have g:=I;cbv at g;try rw[I]
    try rw[g]
    cbv
    cases hh
    have hh:some _=some _:=b
    refine s _ _ ?_
    cbv
    exact Eb
    replace hh:=ifF hh H
    try rw[H]
    cbv
    ·refine p () _ hh fun _ e=>?_
     refine ai ?_
     cbv
     all_goals exact J0
    have G:(eq p0c 0)=false:=Fb Z
    have g:=G;cbv at g;try rw[G]
    try rw[g]
    cbv
    exact Eb
    have A:(eq p0a 1)=false:=Fb X
    have g:=A;cbv at g;try rw[A]
    try rw[g]
    cbv
    replace hh:=aG hh
    rcases hh with⟨EJ,hh⟩|⟨EJ,hh⟩
    have J:(eq p0b 0)=true:=Tb EJ
    have g:=J;cbv at g;try rw[J]
    try rw[g]
    cbv
    refine bcs (fun d=>?_) (fun d=>?_)
    replace hh:=ifT hh d
    try rw[d]
    cbv
    refine bcs (fun K=>?_) (fun K=>?_)
    replace hh:=ifT hh K
    try rw[K]
    cbv
    exact Eb
    replace hh:=ifF hh K
    try rw[K]
    cbv
    refine bcs (fun L=>?_) (fun L=>?_)
    replace hh:=ifT hh L
    try rw[L]
    cbv
    exact Eb
    replace hh:=ifF hh L
    try rw[L]
    cbv
    first|rw[d]|(have g:=d;cbv at g;rw[g])
    cbv
    obtain⟨M,j,b⟩:=af hh
    refine ay hC eok mixed (aC.l2 k (aC.f k) (⟨p0a,p0b,p0c,p0d⟩:GEx) p1)
     (fun E2=>(⟨[(1,iA p1),(2,.mptr (2,0) 1 0 0),(5,iA E2)],[((2,0),.box 1 [iA p0a,iA p0b,iA p0c,tA (qGEx p0d)])]⟩:St))
     (fun(_:Unit)=>(⟨[],[]⟩:St)) .ok (.exit 0)
     (i0:=_) j (fun _=>rfl) ?_ ?_ ?_
    ·rintro O e
     refine ai ?_
     cbv
     all_goals exact J1
    rintro _ hx
    subst M
    have hh:=b
    cbv
    exact Eb
    rintro n E2 N1 D1 hh o p s
    unfold aC.l2 at hh
    cbv
    refine bcs (fun t=>?_) (fun t=>?_)
    replace hh:=ifT hh t
    try rw[t]
    cbv
    obtain⟨F7,hh⟩:=ac hh
    obtain⟨⟨Fk,Fm,Fo,Fp⟩,F8,hh⟩:=af hh
    try dsimp only at hh
    refine⟨[iA Fk,iA Fm,iA Fo,tA (qGEx Fp)],Nb F7,Gb F8,?_⟩
    cbv
    obtain⟨E3,F9,hh⟩:=af hh
    refine ag hF ((ih k (Nat.lt_succ_self k)) F9) ?_
    cbv
    replace hh:=aG hh
    rcases hh with⟨Q,hh⟩|⟨Q,hh⟩
    have u:E3=true:=Tb Q
    have g:=u;cbv at g;try rw[u]
    try rw[g]
    cbv
    ·refine o _ _ hh fun O e=>?_
     refine ai ?_
     cbv
     all_goals exact J1
    have u:E3=false:=Fb Q
    have g:=u;cbv at g;try rw[u]
    try rw[g]
    cbv
    cases hh
    have hh:some _=some _:=b
    refine s _ _ ?_
    cbv
    exact Eb
    replace hh:=ifF hh t
    try rw[t]
    cbv
    ·refine p () _ hh fun _ e=>?_
     refine ai ?_
     cbv
     all_goals exact J0
    replace hh:=ifF hh d
    try rw[d]
    cbv
    first|rw[d]|(have g:=d;cbv at g;rw[g])
    cbv
    replace hh:=aG hh
    rcases hh with⟨R,hh⟩|⟨R,hh⟩
    have v:(eq p0c 0)=true:=Tb R
    have g:=v;cbv at g;try rw[v]
    try rw[g]
    cbv
    obtain⟨M,j,b⟩:=af hh
    refine ay hC eok mixed (aC.l3 k (aC.f k) (⟨p0a,p0b,p0c,p0d⟩:GEx) p1)
     (fun Ff=>(⟨[(1,iA p1),(2,.mptr (2,0) 1 0 0),(5,iA Ff)],[((2,0),.box 1 [iA p0a,iA p0b,iA p0c,tA (qGEx p0d)])]⟩:St))
     (fun(_:Unit)=>(⟨[],[]⟩:St)) .ok (.exit 0)
     (i0:=_) j (fun _=>rfl) ?_ ?_ ?_
    ·rintro O e
     refine ai ?_
     cbv
     all_goals exact J1
    rintro _ hx
    subst M
    have hh:=b
    cbv
    exact Eb
    rintro n Ff N1 D1 hh o p s
    unfold aC.l3 at hh
    cbv
    refine bcs (fun w=>?_) (fun w=>?_)
    replace hh:=ifT hh w
    try rw[w]
    cbv
    obtain⟨Ga,hh⟩:=ac hh
    obtain⟨⟨Fq,Fr,Fu,Fx⟩,Gc,hh⟩:=af hh
    try dsimp only at hh
    refine⟨[iA Fq,iA Fr,iA Fu,tA (qGEx Fx)],Nb Ga,Gb Gc,?_⟩
    cbv
    obtain⟨Fj,Gd,hh⟩:=af hh
    refine ag hF ((ih k (Nat.lt_succ_self k)) Gd) ?_
    cbv
    replace hh:=aG hh
    rcases hh with⟨S,hh⟩|⟨S,hh⟩
    have y:Fj=true:=Tb S
    have g:=y;cbv at g;try rw[y]
    try rw[g]
    cbv
    ·refine o _ _ hh fun O e=>?_
     refine ai ?_
     cbv
     all_goals exact J1
    have y:Fj=false:=Fb S
    have g:=y;cbv at g;try rw[y]
    try rw[g]
    cbv
    cases hh
    have hh:some _=some _:=b
    refine s _ _ ?_
    cbv
    exact Eb
    replace hh:=ifF hh w
    try rw[w]
    cbv
    ·refine p () _ hh fun _ e=>?_
     refine ai ?_
     cbv
     all_goals exact J0
    have v:(eq p0c 0)=false:=Fb R
    have g:=v;cbv at g;try rw[v]
    try rw[g]
    cbv
    exact Eb
    have J:(eq p0b 0)=false:=Fb EJ
    have g:=J;cbv at g;try rw[J]
    try rw[g]
    cbv
    exact Eb
    have z:(lt p0b 5)=false:=Fb W
    have g:=z;cbv at g;try rw[z]
    try rw[g]
    cbv
    exact Eb
    have U:(eq x4 (cast (len (qGEx p0d))))=false:=Fb b6
    have g:=U;cbv at g;try rw[U]
    try rw[g]
    cbv
    exact Eb
theorem xn {k:Nat} {p0:GEx} {p1:Int} {r:Bool} (hh:aC.f k p0 p1=some r):ak P 53 [.agg [iA p0.Kind,iA p0.Sym,iA p0.N,tA (qGEx p0.Kids)],iA p1] [hA,hA] (bA r):=(EZ hQ k) hh


theorem EA:∀k:Nat,(∀{p0:GEx} {p1:Int} {r:Int},cv.f k p0 p1=some r→ak P 54 [.agg [iA p0.Kind,iA p0.Sym,iA p0.N,tA (qGEx p0.Kids)],iA p1] [hA,hA] (iA r)):=by
  intro k
  induction k using Nat.strongRecOn with
  |_ k ih=>
  · intro p0 p1 r hh
    cases k with
    |zero=>unfold cv.f at hh;cases hh
    |succ k=>
    obtain⟨p0a,p0b,p0c,p0d⟩:=p0
    unfold cv.f at hh
    refine go (ts:=[(4,none)]) (rm:=[.own]) (pm:=[.skip,.skip]) Tryz.func54 ?_
    unhygienic intros
    cbv
    obtain⟨F,y,z⟩:=af hh
    refine ay hC eok mixed (fun n (i:Int×Int)=>cv.l0 k (cv.f k) (⟨p0a,p0b,p0c,p0d⟩:GEx) p1 n i.1 i.2)
     (fun⟨d,j⟩=>(⟨[(1,iA p1),(2,.mptr (2,0) 1 0 0),(5,iA d),(6,iA j)],[((2,0),.box 1 [iA p0a,iA p0b,iA p0c,tA (qGEx p0d)])]⟩:St))
     (fun(o:Int)=>(⟨[(5,iA o)],[]⟩:St)) (fun x=>x) (.exit 0)
     (i0:=(_,_)) y (fun _=>rfl) ?_ ?_ ?_
    ·rintro⟨s,G⟩ e
     refine ai ?_
     cbv
     all_goals exact J2
    rintro o hx
    subst F
    have hh:=z
    cbv
    exact Eb
    rintro n ⟨d,j⟩ J K hh A p H
    try dsimp only at hh
    unfold cv.l0 at hh
    cbv
    refine bcs (fun b=>?_) (fun b=>?_)
    replace hh:=ifT hh b
    try rw[b]
    cbv
    refine bcs (fun c=>?_) (fun c=>?_)
    replace hh:=ifT hh c
    try rw[c]
    cbv
    obtain⟨B,hh⟩:=ac hh
    obtain⟨⟨t,u,v,w⟩,C,hh⟩:=af hh
    try dsimp only at hh
    refine⟨[iA t,iA u,iA v,tA (qGEx w)],Nb B,Gb C,?_⟩
    cbv
    obtain⟨I,D,hh⟩:=af hh
    refine ag hF ((ih k (Nat.lt_succ_self k)) D) ?_
    cbv
    ·refine A (_,_) _ hh fun⟨s,G⟩ e=>?_
     refine ai ?_
     cbv
     all_goals exact J2
    replace hh:=ifF hh c
    try rw[c]
    cbv
    ·refine p _ _ hh fun s e=>?_
     refine ai ?_
     cbv
     all_goals exact J1
    replace hh:=ifF hh b
    try rw[b]
    cbv
    ·refine p _ _ hh fun s e=>?_
     refine ai ?_
     cbv
     all_goals exact J1
theorem xd {k:Nat} {p0:GEx} {p1:Int} {r:Int} (hh:cv.f k p0 p1=some r):ak P 54 [.agg [iA p0.Kind,iA p0.Sym,iA p0.N,tA (qGEx p0.Kids)],iA p1] [hA,hA] (iA r):=(EA hQ k) hh


theorem oq {k:Nat} {p0:GEx} {r:Bool} (hh:ic.f k p0=some r):ak P 17 [.agg [iA p0.Kind,iA p0.Sym,iA p0.N,tA (qGEx p0.Kids)]] [hA] (bA r):=by
 obtain⟨p0a,p0b,p0c,p0d⟩:=p0
 unfold ic.f at hh
 refine go (ts:=[(2,none)]) (rm:=[.own]) (pm:=[.skip]) Tryz.func17 ?_
 unhygienic intros
 cbv
 obtain⟨j,c,hh⟩:=af hh
 refine ag hF (xn hQ c) ?_
 cbv
 refine bcs (fun b=>?_) (fun b=>?_)
 replace hh:=ifT hh b
 try rw[b]
 cbv
 obtain⟨o,d,hh⟩:=af hh
 refine ag hF (xd hQ d) ?_
 cbv
 exact Eb
 replace hh:=ifF hh b
 try rw[b]
 cbv
 exact Eb
theorem vf {k:Nat} {p0:GEx} {r:Bool} (hh:ic.f k p0=some r):ak P 17 [.agg [iA p0.Kind,iA p0.Sym,iA p0.N,oA 4 (qGExO p0.Kids)]] [.agg [iA p0.Kind,iA p0.Sym,iA p0.N,oA 4 (qGExO p0.Kids)]] (bA r):=by
  cases hQ;exact(oq .mk hh).lend (rfl) (.lend (by simp) .nil)

theorem qe {k:Nat} {p0:Gl14Rd} {r:GEx×Gl14Rd} (hh:iC.f k p0=some r):ak P 116 [.obox [tA (qIu8 p0.b),iA p0.p]] [.obox [tA (qIu8 r.2.b),iA r.2.p]] (.agg [iA r.1.Kind,iA r.1.Sym,iA r.1.N,oA 4 (qGExO r.1.Kids)]):=by
 obtain⟨p0a,p0b⟩:=p0
 unfold iC.f at hh
 refine go (ts:=[(2,some 25)]) (rm:=[.own]) (pm:=[.own]) Tryz.func116 ?_
 unhygienic intros
 cbv
 obtain⟨⟨I,⟨z,A⟩⟩,J,hh⟩:=af hh
 try dsimp only at hh
 have fc:=dw hQ J
 try dsimp only at fc
 refine ag hF fc ?_
 cbv
 obtain⟨⟨⟨B,C,D,F⟩,⟨G,H⟩⟩,K,hh⟩:=af hh
 try dsimp only at hh
 have fc:=sC hQ K
 try dsimp only at fc
 refine ag hF fc ?_
 cbv
 obtain⟨j,L,hh⟩:=af hh
 have fc:=vf hQ L
 try dsimp only at fc
 refine ag hF fc ?_
 cbv
 replace hh:=aG hh
 rcases hh with⟨d,hh⟩|⟨d,hh⟩
 have c:j=true:=Tb d
 have g:=c;cbv at g;try rw[c]
 try rw[g]
 cbv
 exact Eb
 have c:j=false:=Fb d
 have g:=c;cbv at g;try rw[c]
 try rw[g]
 cbv
 obtain⟨⟨⟨o,s,t,u⟩,⟨v,w⟩⟩,y,hh⟩:=af hh
 try dsimp only at hh
 have fc:=sC hQ y
 try dsimp only at fc
 refine ag hF fc ?_
 cbv
 exact Eb

theorem wU {p0:Gl14Rd} {r:Int×Gl14Rd} (hh:jI.f p0=some r):ak P 123 [.obox [tA (qIu8 p0.b),iA p0.p]] [.obox [tA (qIu8 r.2.b),iA r.2.p]] (iA r.1):=by
 obtain⟨p0a,p0b⟩:=p0
 unfold jI.f at hh
 refine go (ts:=[(2,none)]) (rm:=[.own]) (pm:=[.own]) Tryz.func123 ?_
 unhygienic intros
 cbv
 obtain⟨⟨j,⟨c,d⟩⟩,o,hh⟩:=af hh
 try dsimp only at hh
 refine⟨Ob,?_⟩
 have fc:=bR hQ o
 try dsimp only at fc
 refine ag hF fc ?_
 cbv
 exact Eb

theorem D0:∀k:Nat,(∀{p0:GEx} {r:GEx},cm.f k p0=some r→ak P 118 [.agg [iA p0.Kind,iA p0.Sym,iA p0.N,tA (qGEx p0.Kids)]] [hA] (.agg [iA r.Kind,iA r.Sym,iA r.N,oA 4 (qGExO r.Kids)])):=by
  intro k
  induction k using Nat.strongRecOn with
  |_ k ih=>
  · intro p0 r hh
    cases k with
    |zero=>unfold cm.f at hh;cases hh
    |succ k=>
    obtain⟨p0a,p0b,p0c,p0d⟩:=p0
    unfold cm.f at hh
    refine go (ts:=[(2,some 25)]) (rm:=[.own]) (pm:=[.skip]) Tryz.func118 ?_
    unhygienic intros
    cbv
    obtain⟨F,u,v⟩:=af hh
    refine ay hC eok mixed (fun n (i:(List GEx)×Int)=>cm.l0 k (cm.f k) (⟨p0a,p0b,p0c,p0d⟩:GEx) n i.1 i.2)
     (fun⟨c,j⟩=>(⟨[(1,.mptr (1,0) 1 0 0),(2,.mptr (2,0) 1 0 0),(3,.mptr (3,0) 1 0 0),(4,iA j)],[((1,0),.box 1 [iA p0a,iA p0b,iA p0c,tA (qGEx p0d)]),((2,0),.box 1 [iA 0,iA 0,iA 0,.lit (.slice none 0 0)]),((3,0),.box 1 [iA p0a,iA p0b,iA p0c,.ref (3,53) 1 0 (len (qGExO c))]),((3,53),.arr 1 4 (qGExO c))]⟩:St))
     (fun(d:List GEx)=>(⟨[(2,.mptr (2,0) 1 0 0),(3,.mptr (3,0) 1 0 0)],[((2,0),.box 1 [iA 0,iA 0,iA 0,.lit (.slice none 0 0)]),((3,0),.box 1 [iA p0a,iA p0b,iA p0c,.ref (3,53) 1 0 (len (qGExO d))]),((3,53),.arr 1 4 (qGExO d))]⟩:St)) (fun x=>x) (.exit 0)
     (i0:=(_,_)) u (fun _=>rfl) ?_ ?_ ?_
    ·rintro⟨w,G⟩ e
     refine aq [((1,0),(1,0)),((2,0),(2,0)),((3,0),(3,0))] ?_
     cbv
     all_goals exact J2
    rintro d hx
    subst F
    have hh:=v
    cbv
    exact Eb
    rintro n ⟨c,j⟩ M O hh y z L
    try dsimp only at hh
    unfold cm.l0 at hh
    cbv
    refine bcs (fun b=>?_) (fun b=>?_)
    replace hh:=ifT hh b
    try rw[b]
    cbv
    obtain⟨A,hh⟩:=ac hh
    obtain⟨⟨o,p,s,t⟩,B,hh⟩:=af hh
    try dsimp only at hh
    refine⟨[iA o,iA p,iA s,tA (qGEx t)],Nb A,Gb B,?_⟩
    cbv
    obtain⟨⟨H,I,J,K⟩,C,hh⟩:=af hh
    try dsimp only at hh
    have fc:=(ih k (Nat.lt_succ_self k)) C
    try dsimp only at fc
    refine ag hF fc ?_
    cbv
    obtain⟨D,hh⟩:=ac hh
    refine⟨⟨Ob,Ab⟩,?_⟩
    refine⟨⟨Ob,Wb D⟩,?_⟩
    ·refine y (_,_) _ hh fun⟨w,G⟩ e=>?_
     refine aq [((1,0),(1,0)),((2,0),(2,0)),((3,0),(3,0)),((3,53),(28,0))] ?_
     cbv
     all_goals exact J2
    replace hh:=ifF hh b
    try rw[b]
    cbv
    ·refine z _ _ hh fun w e=>?_
     refine ai ?_
     cbv
     all_goals exact J1
theorem xk {k:Nat} {p0:GEx} {r:GEx} (hh:cm.f k p0=some r):ak P 118 [.agg [iA p0.Kind,iA p0.Sym,iA p0.N,tA (qGEx p0.Kids)]] [hA] (.agg [iA r.Kind,iA r.Sym,iA r.N,oA 4 (qGExO r.Kids)]):=(D0 hQ k) hh

theorem tz {k:Nat} {p0:GEx} {r:GEx} (hh:cm.f k p0=some r):ak P 118 [.agg [iA p0.Kind,iA p0.Sym,iA p0.N,oA 4 (qGExO p0.Kids)]] [.agg [iA p0.Kind,iA p0.Sym,iA p0.N,oA 4 (qGExO p0.Kids)]] (.agg [iA r.Kind,iA r.Sym,iA r.N,oA 4 (qGExO r.Kids)]):=by
  cases hQ;exact(xk .mk hh).lend (by simp[Vm.ownd,gm, -mP,om]) (.lend (by simp) .nil)

theorem xx {k:Nat} {p0:Gl14Rd} {r:GEx×Gl14Rd} (hh:bQ.f k p0=some r):ak P 49 [.obox [tA (qIu8 p0.b),iA p0.p]] [.obox [tA (qIu8 r.2.b),iA r.2.p]] (.agg [iA r.1.Kind,iA r.1.Sym,iA r.1.N,oA 4 (qGExO r.1.Kids)]):=by
 obtain⟨p0a,p0b⟩:=p0
 unfold bQ.f at hh
 refine go (ts:=[(2,some 25)]) (rm:=[.own]) (pm:=[.own]) Tryz.func49 ?_
 unhygienic intros
 cbv
 obtain⟨⟨⟨Fx,Fz,FA,FB⟩,⟨FE,FH⟩⟩,h1,hh⟩:=af hh
 try dsimp only at hh
 have fc:=qe hQ h1
 try dsimp only at fc
 refine ag hF fc ?_
 cbv
 obtain⟨⟨FR,⟨c,d⟩⟩,h4,hh⟩:=af hh
 try dsimp only at hh
 have fc:=dw hQ h4
 try dsimp only at fc
 refine ag hF fc ?_
 cbv
 refine bcs (fun w=>?_) (fun w=>?_)
 replace hh:=ifT hh w
 try rw[w]
 cbv
 obtain⟨⟨FI,⟨E3,Ff⟩⟩,h9,hh⟩:=af hh
 try dsimp only at hh
 refine⟨Ob,?_⟩
 have fc:=bR hQ h9
 try dsimp only at fc
 refine ag hF fc ?_
 cbv
 exact Eb
 replace hh:=ifF hh w
 try rw[w]
 cbv
 refine bcs (fun j=>?_) (fun j=>?_)
 replace hh:=ifT hh j
 try rw[j]
 cbv
 obtain⟨⟨FJ,⟨Fj,Fk⟩⟩,Fm,hh⟩:=af hh
 try dsimp only at hh
 refine⟨Ob,?_⟩
 have fc:=bR hQ Fm
 try dsimp only at fc
 refine ag hF fc ?_
 cbv
 exact Eb
 replace hh:=ifF hh j
 try rw[j]
 cbv
 refine bcs (fun o=>?_) (fun o=>?_)
 replace hh:=ifT hh o
 try rw[o]
 cbv
 obtain⟨⟨FM,⟨Fo,Fp⟩⟩,Fq,hh⟩:=af hh
 try dsimp only at hh
 refine⟨Ob,?_⟩
 have fc:=bR hQ Fq
 try dsimp only at fc
 refine ag hF fc ?_
 cbv
 exact Eb
 replace hh:=ifF hh o
 try rw[o]
 cbv
 refine bcs (fun s=>?_) (fun s=>?_)
 replace hh:=ifT hh s
 try rw[s]
 cbv
 obtain⟨o1,y,z⟩:=af hh
 refine ay hC eok mixed (fun n (i:Int×Int×Int×(List GEx)×Int)=>bQ.l0 k n i.1 i.2.1 i.2.2.1 i.2.2.2.1 i.2.2.2.2)
  (fun⟨L,M,O,A,Q⟩=>(⟨[(2,.mptr (2,0) 1 0 0),(3,.mptr (3,0) 1 0 0),(4,iA Q),(1000000,.mptr (0,0) 1 0 0)],[((0,0),.box 1 [tA (qIu8 c),iA d]),((2,0),.box 1 [iA 0,iA 0,iA 0,.lit (.slice none 0 0)]),((3,0),.box 1 [iA L,iA M,iA O,.ref (7,0) 1 0 (len (qGExO A))]),((7,0),.arr 1 4 (qGExO A))]⟩:St))
  (fun(⟨R,S,T,B⟩:Int×Int×Int×(List GEx))=>(⟨[(2,.mptr (2,0) 1 0 0),(3,.mptr (3,0) 1 0 0),(1000000,.mptr (0,0) 1 0 0)],[((0,0),.box 1 [tA (qIu8 c),iA d]),((2,0),.box 1 [iA 0,iA 0,iA 0,.lit (.slice none 0 0)]),((3,0),.box 1 [iA R,iA S,iA T,.ref (7,0) 1 0 (len (qGExO B))]),((7,0),.arr 1 4 (qGExO B))]⟩:St)) (fun x=>x) (.exit 1)
  (i0:=(_,_,_,_,_)) y (fun _=>rfl) ?_ ?_ ?_
 ·rintro⟨C,D,F,G,t4⟩ e
  refine ai ?_
  cbv
  all_goals exact J5
 rintro⟨R,S,T,B⟩ hx
 subst o1
 have hh:=z
 cbv
 exact Eb
 rintro n ⟨L,M,O,A,Q⟩ N1 D1 hh H I Fr
 try dsimp only at hh
 unfold bQ.l0 at hh
 cbv
 refine bcs (fun t=>?_) (fun t=>?_)
 replace hh:=ifT hh t
 try rw[t]
 cbv
 ·refine H (_,_,_,_,_) _ hh fun⟨C,D,F,G,t4⟩ e=>?_
  refine aq [((0,0),(0,0)),((2,0),(2,0)),((3,0),(3,0)),((7,0),(35,0))] ?_
  cbv
  all_goals exact J5
 replace hh:=ifF hh t
 try rw[t]
 cbv
 ·refine I (_,_,_,_) _ hh fun⟨C,D,F,G⟩ e=>?_
  refine ai ?_
  cbv
  all_goals exact J4
 replace hh:=ifF hh s
 try rw[s]
 cbv
 refine bcs (fun u=>?_) (fun u=>?_)
 replace hh:=ifT hh u
 try rw[u]
 cbv
 obtain⟨o1,y,z⟩:=af hh
 refine ay hC eok mixed (fun n (i:Int×Int×Int×(List GEx)×Int)=>bQ.l1 k n i.1 i.2.1 i.2.2.1 i.2.2.2.1 i.2.2.2.2)
  (fun⟨U,V,W,J,X⟩=>(⟨[(2,.mptr (2,0) 1 0 0),(3,.mptr (3,0) 1 0 0),(5,iA X),(1000000,.mptr (0,0) 1 0 0)],[((0,0),.box 1 [tA (qIu8 c),iA d]),((2,0),.box 1 [iA 0,iA 0,iA 0,.lit (.slice none 0 0)]),((3,0),.box 1 [iA U,iA V,iA W,.ref (7,0) 1 0 (len (qGExO J))]),((7,0),.arr 1 4 (qGExO J))]⟩:St))
  (fun(⟨Y,Z,ek,K⟩:Int×Int×Int×(List GEx))=>(⟨[(2,.mptr (2,0) 1 0 0),(3,.mptr (3,0) 1 0 0),(1000000,.mptr (0,0) 1 0 0)],[((0,0),.box 1 [tA (qIu8 c),iA d]),((2,0),.box 1 [iA 0,iA 0,iA 0,.lit (.slice none 0 0)]),((3,0),.box 1 [iA Y,iA Z,iA ek,.ref (7,0) 1 0 (len (qGExO K))]),((7,0),.arr 1 4 (qGExO K))]⟩:St)) (fun x=>x) (.exit 3)
  (i0:=(_,_,_,_,_)) y (fun _=>rfl) ?_ ?_ ?_
 ·rintro⟨C,D,F,G,t4⟩ e
  refine ai ?_
  cbv
  all_goals exact J5
 rintro⟨Y,Z,ek,K⟩ hx
 subst o1
 have hh:=z
 cbv
 exact Eb
 rintro n ⟨U,V,W,J,X⟩ N1 D1 hh H I Fr
 try dsimp only at hh
 unfold bQ.l1 at hh
 cbv
 refine bcs (fun v=>?_) (fun v=>?_)
 replace hh:=ifT hh v
 try rw[v]
 cbv
 obtain⟨⟨F6,F7,F8,F9⟩,Fu,hh⟩:=af hh
 try dsimp only at hh
 have fc:=tz hQ Fu
 try dsimp only at fc
 refine ag hF fc ?_
 cbv
 ·refine H (_,_,_,_,_) _ hh fun⟨C,D,F,G,t4⟩ e=>?_
  refine aq [((0,0),(0,0)),((2,0),(2,0)),((3,0),(3,0)),((7,0),(46,0))] ?_
  cbv
  all_goals exact J5
 replace hh:=ifF hh v
 try rw[v]
 cbv
 ·refine I (_,_,_,_) _ hh fun⟨C,D,F,G⟩ e=>?_
  refine ai ?_
  cbv
  all_goals exact J4
 replace hh:=ifF hh u
 try rw[u]
 cbv
 exact Eb

theorem kY {k:Nat} {p0:Gl14Rd} {p1:Int} {r:(List GEv)×Gl14Rd} (hh:cY.f k p0 p1=some r):ak P 124 [.obox [tA (qIu8 p0.b),iA p0.p],iA p1] [.obox [tA (qIu8 r.2.b),iA r.2.p],hA] (oA 3 (qGEv r.1)):=by
 obtain⟨p0a,p0b⟩:=p0
 unfold cY.f at hh
 refine go (ts:=[(4,none)]) (rm:=[.own]) (pm:=[.own,.skip]) Tryz.func124 ?_
 unhygienic intros
 cbv
 obtain⟨⟨W,⟨R,S⟩⟩,X,hh⟩:=af hh
 try dsimp only at hh
 have fc:=dw hQ X
 try dsimp only at fc
 refine ag hF fc ?_
 cbv
 obtain⟨Y,y,z⟩:=af hh
 refine ay hC eok mixed (fun n (i:(List Int)×Int×(List GEv)×Int×Int)=>cY.l0 k n i.1 i.2.1 i.2.2.1 i.2.2.2.1 i.2.2.2.2)
  (fun⟨o,s,d,t,u⟩=>(⟨[(0,.mptr (0,0) 1 0 0),(5,.ref (8,0) 1 0 (len (qGEv d))),(6,iA t),(7,iA u),(1000000,.mptr (0,0) 1 0 0)],[((0,0),.box 1 [tA (qIu8 o),iA s]),((8,0),.arr 1 3 (qGEv d))]⟩:St))
  (fun(⟨j,v,w⟩:(List GEv)×(List Int)×Int)=>(⟨[(5,.ref (8,0) 1 0 (len (qGEv j))),(1000000,.mptr (0,0) 1 0 0)],[((0,0),.box 1 [tA (qIu8 v),iA w]),((8,0),.arr 1 3 (qGEv j))]⟩:St)) (fun x=>x) (.exit 0)
  (i0:=(_,_,_,_,_)) y (fun _=>rfl) ?_ ?_ ?_
 ·rintro⟨A,B,C,Z,t4⟩ e
  refine ai ?_
  cbv
  all_goals exact J5
 rintro⟨j,v,w⟩ hx
 subst Y
 have hh:=z
 cbv
 exact Eb
 rintro n ⟨o,s,d,t,u⟩ N1 D1 hh D F EJ
 try dsimp only at hh
 unfold cY.l0 at hh
 cbv
 refine bcs (fun c=>?_) (fun c=>?_)
 replace hh:=ifT hh c
 try rw[c]
 cbv
 obtain⟨⟨T,⟨G,H⟩⟩,I,hh⟩:=af hh
 try dsimp only at hh
 refine⟨Ob,?_⟩
 have fc:=bR hQ I
 try dsimp only at fc
 refine ag hF fc ?_
 cbv
 obtain⟨⟨U,⟨J,K⟩⟩,L,hh⟩:=af hh
 try dsimp only at hh
 refine⟨Ob,?_⟩
 have fc:=bR hQ L
 try dsimp only at fc
 refine ag hF fc ?_
 cbv
 obtain⟨⟨V,⟨M,N⟩⟩,O,hh⟩:=af hh
 try dsimp only at hh
 refine⟨Ob,?_⟩
 have fc:=bR hQ O
 try dsimp only at fc
 refine ag hF fc ?_
 cbv
 obtain⟨Q,hh⟩:=ac hh
 refine⟨⟨Ob,Ab⟩,?_⟩
 refine⟨⟨Ob,Wb Q⟩,?_⟩
 ·refine D (_,_,_,_,_) _ hh fun⟨A,B,C,Z,t4⟩ e=>?_
  refine aq [((0,0),(0,0)),((8,0),(32,0))] ?_
  cbv
  all_goals exact J5
 replace hh:=ifF hh c
 try rw[c]
 cbv
 ·refine F (_,_,_) _ hh fun⟨A,B,C⟩ e=>?_
  refine ai ?_
  cbv
  all_goals exact J3

theorem wX {k:Nat} {p0:Gl14Rd} {r:(List GEv)×Gl14Rd} (hh:dp.f k p0=some r):ak P 125 [.obox [tA (qIu8 p0.b),iA p0.p]] [.obox [tA (qIu8 r.2.b),iA r.2.p]] (oA 3 (qGEv r.1)):=by
 obtain⟨p0a,p0b⟩:=p0
 unfold dp.f at hh
 refine go (ts:=[(2,none)]) (rm:=[.own]) (pm:=[.own]) Tryz.func125 ?_
 unhygienic intros
 cbv
 obtain⟨⟨F7,⟨FM,FN⟩⟩,h1,hh⟩:=af hh
 try dsimp only at hh
 have fc:=kY hQ h1
 try dsimp only at fc
 refine ag hF fc ?_
 cbv
 refine bcs (fun w=>?_) (fun w=>?_)
 replace hh:=ifT hh w
 try rw[w]
 cbv
 exact Eb
 replace hh:=ifF hh w
 try rw[w]
 cbv
 obtain⟨⟨F9,⟨FR,FT⟩⟩,h6,hh⟩:=af hh
 try dsimp only at hh
 have fc:=dw hQ h6
 try dsimp only at fc
 refine ag hF fc ?_
 cbv
 obtain⟨⟨FW,⟨c,d⟩⟩,h9,hh⟩:=af hh
 try dsimp only at hh
 have fc:=dw hQ h9
 try dsimp only at fc
 refine ag hF fc ?_
 cbv
 refine bcs (fun j=>?_) (fun j=>?_)
 replace hh:=ifT hh j
 try rw[j]
 cbv
 obtain⟨⟨F4,⟨Y,Z⟩⟩,ek,hh⟩:=af hh
 try dsimp only at hh
 refine⟨Ob,?_⟩
 have fc:=bR hQ ek
 try dsimp only at fc
 refine ag hF fc ?_
 cbv
 obtain⟨A,hh⟩:=ac hh
 try dsimp only at A
 obtain⟨B,hh⟩:=ac hh
 try dsimp only at B
 refine⟨Nb A,Mb B,?_⟩
 obtain⟨⟨I,J,K⟩,EJ,hh⟩:=af hh
 try dsimp only at hh
 refine⟨[iA I,iA J,iA K],Gb EJ,?_⟩
 cbv
 exact Eb
 replace hh:=ifF hh j
 try rw[j]
 cbv
 refine bcs (fun o=>?_) (fun o=>?_)
 replace hh:=ifT hh o
 try rw[o]
 cbv
 obtain⟨E2,hh⟩:=ac hh
 obtain⟨C,hh⟩:=ac hh
 try dsimp only at C
 refine⟨Nb E2,Mb C,?_⟩
 obtain⟨⟨L,M,N⟩,E3,hh⟩:=af hh
 try dsimp only at hh
 refine⟨[iA L,iA M,iA N],Gb E3,?_⟩
 cbv
 obtain⟨⟨F5,⟨Ff,Fj⟩⟩,Fk,hh⟩:=af hh
 try dsimp only at hh
 refine⟨Ob,?_⟩
 have fc:=bR hQ Fk
 try dsimp only at fc
 refine ag hF fc ?_
 cbv
 obtain⟨D,hh⟩:=ac hh
 try dsimp only at D
 obtain⟨F,hh⟩:=ac hh
 try dsimp only at F
 refine⟨Nb D,Mb F,?_⟩
 obtain⟨⟨O,Q,R⟩,Fm,hh⟩:=af hh
 try dsimp only at hh
 refine⟨[iA O,iA Q,iA R],Gb Fm,?_⟩
 cbv
 exact Eb
 replace hh:=ifF hh o
 try rw[o]
 cbv
 refine bcs (fun s=>?_) (fun s=>?_)
 replace hh:=ifT hh s
 try rw[s]
 cbv
 obtain⟨⟨F6,⟨Fo,Fp⟩⟩,Fq,hh⟩:=af hh
 try dsimp only at hh
 refine⟨Ob,?_⟩
 have fc:=bR hQ Fq
 try dsimp only at fc
 refine ag hF fc ?_
 cbv
 obtain⟨G,hh⟩:=ac hh
 try dsimp only at G
 obtain⟨H,hh⟩:=ac hh
 try dsimp only at H
 refine⟨Nb G,Mb H,?_⟩
 obtain⟨⟨S,T,U⟩,Fr,hh⟩:=af hh
 try dsimp only at hh
 refine⟨[iA S,iA T,iA U],Gb Fr,?_⟩
 cbv
 exact Eb
 replace hh:=ifF hh s
 try rw[s]
 cbv
 refine bcs (fun t=>?_) (fun t=>?_)
 replace hh:=ifT hh t
 try rw[t]
 cbv
 obtain⟨o1,Fu,Fx⟩:=af hh
 refine ay hC eok mixed (dp.l0 k)
  (fun u=>(⟨[(3,.ref (6,0) 1 0 (len (qGEv u))),(1000000,.mptr (0,0) 1 0 0)],[((0,0),.box 1 [tA (qIu8 c),iA d]),((6,0),.arr 1 3 (qGEv u))]⟩:St))
  (fun(y:List GEv)=>(⟨[(3,.ref (6,0) 1 0 (len (qGEv y))),(1000000,.mptr (0,0) 1 0 0)],[((0,0),.box 1 [tA (qIu8 c),iA d]),((6,0),.arr 1 3 (qGEv y))]⟩:St)) (fun x=>x) (.exit 1)
  (i0:=_) Fu (fun _=>rfl) ?_ ?_ ?_
 ·rintro t0 e
  refine ai ?_
  cbv
  all_goals exact J1
 rintro y hx
 subst o1
 have hh:=Fx
 cbv
 exact Eb
 rintro n u N1 D1 hh FA FB Ge
 unfold dp.l0 at hh
 cbv
 replace hh:=aG hh
 rcases hh with⟨z,hh⟩|⟨z,hh⟩
 have v:(lt 24 (cast (len (qGEv u))))=true:=Tb z
 have g:=v;cbv at g;try rw[v]
 try rw[g]
 cbv
 ·refine FB _ _ hh fun t0 e=>?_
  refine ai ?_
  cbv
  all_goals exact J1
 have v:(lt 24 (cast (len (qGEv u))))=false:=Fb z
 have g:=v;cbv at g;try rw[v]
 try rw[g]
 cbv
 obtain⟨FE,hh⟩:=ac hh
 obtain⟨FH,hh⟩:=ac hh
 refine⟨Nb FE,Mb FH,?_⟩
 obtain⟨⟨V,W,X⟩,FI,hh⟩:=af hh
 try dsimp only at hh
 refine⟨[iA V,iA W,iA X],Gb FI,?_⟩
 cbv
 obtain⟨FJ,hh⟩:=ac hh
 refine⟨⟨Ob,Ab⟩,?_⟩
 refine⟨⟨Ob,Wb FJ⟩,?_⟩
 ·refine FA _ _ hh fun t0 e=>?_
  refine aq [((0,0),(0,0)),((6,0),(64,0))] ?_
  cbv
  all_goals exact J1
 replace hh:=ifF hh t
 try rw[t]
 cbv
 exact Eb

theorem xj {k:Nat} {p0:Gl14Rd} {r:GEx×Int×(List GEv)×Gl14Rd} (hh:jH.f k p0=some r):ak P 57 [.obox [tA (qIu8 p0.b),iA p0.p]] [.obox [tA (qIu8 r.2.2.2.b),iA r.2.2.2.p]] (.tup [.agg [iA r.1.Kind,iA r.1.Sym,iA r.1.N,oA 4 (qGExO r.1.Kids)],iA r.2.1,oA 3 (qGEv r.2.2.1)]):=by
 obtain⟨p0a,p0b⟩:=p0
 unfold jH.f at hh
 refine go (ts:=[(2,some 25),(3,none),(4,none)]) (rm:=[.own,.own,.own]) (pm:=[.own]) Tryz.func57 ?_
 unhygienic intros
 cbv
 obtain⟨⟨⟨M,O,Q,R⟩,⟨S,T⟩⟩,h1,hh⟩:=af hh
 try dsimp only at hh
 have fc:=qe hQ h1
 try dsimp only at fc
 refine ag hF fc ?_
 cbv
 obtain⟨⟨E3,⟨U,V⟩⟩,h4,hh⟩:=af hh
 try dsimp only at hh
 have fc:=wU hQ h4
 try dsimp only at fc
 refine ag hF fc ?_
 cbv
 obtain⟨⟨Fj,⟨W,X⟩⟩,h7,hh⟩:=af hh
 try dsimp only at hh
 have fc:=dw hQ h7
 try dsimp only at fc
 refine ag hF fc ?_
 cbv
 refine bcs (fun c=>?_) (fun c=>?_)
 replace hh:=ifT hh c
 try rw[c]
 cbv
 obtain⟨⟨⟨o,s,t,u⟩,⟨v,w⟩⟩,y,hh⟩:=af hh
 try dsimp only at hh
 have fc:=xx hQ y
 try dsimp only at fc
 refine ag hF fc ?_
 cbv
 obtain⟨⟨Y,⟨z,A⟩⟩,B,hh⟩:=af hh
 try dsimp only at hh
 have fc:=kY hQ B
 try dsimp only at fc
 refine ag hF fc ?_
 cbv
 exact Eb
 replace hh:=ifF hh c
 try rw[c]
 cbv
 refine bcs (fun d=>?_) (fun d=>?_)
 replace hh:=ifT hh d
 try rw[d]
 cbv
 obtain⟨⟨Z,⟨C,D⟩⟩,F,hh⟩:=af hh
 try dsimp only at hh
 have fc:=wX hQ F
 try dsimp only at fc
 refine ag hF fc ?_
 cbv
 exact Eb
 replace hh:=ifF hh d
 try rw[d]
 cbv
 refine bcs (fun j=>?_) (fun j=>?_)
 replace hh:=ifT hh j
 try rw[j]
 cbv
 obtain⟨⟨ek,⟨G,H⟩⟩,I,hh⟩:=af hh
 try dsimp only at hh
 have fc:=kY hQ I
 try dsimp only at fc
 refine ag hF fc ?_
 cbv
 exact Eb
 replace hh:=ifF hh j
 try rw[j]
 cbv
 obtain⟨⟨EJ,⟨J,K⟩⟩,L,hh⟩:=af hh
 try dsimp only at hh
 have fc:=kY hQ L
 try dsimp only at fc
 refine ag hF fc ?_
 cbv
 exact Eb

theorem qn {k:Nat} {p0:List Int} {r:GEx×Int×(List GEv)} (hh:fA.f k p0=some r):ak P 40 [tA (qIu8 p0)] [hA] (.tup [.agg [iA r.1.Kind,iA r.1.Sym,iA r.1.N,oA 4 (qGExO r.1.Kids)],iA r.2.1,oA 3 (qGEv r.2.2)]):=by
 unfold fA.f at hh
 refine go (ts:=[(2,some 25),(3,none),(4,none)]) (rm:=[.own,.own,.own]) (pm:=[.skip]) Tryz.func40 ?_
 unhygienic intros
 cbv
 obtain⟨⟨w,y⟩,s,hh⟩:=af hh
 try dsimp only at hh
 refine ag hF (vp hQ s) ?_
 cbv
 obtain⟨⟨⟨b,c,d,j⟩,t,u,⟨o,p⟩⟩,v,hh⟩:=af hh
 try dsimp only at hh
 have fc:=xj hQ v
 try dsimp only at fc
 refine ag hF fc ?_
 cbv
 exact Eb

theorem C6:∀k:Nat,(∀{p0:GEx} {r:Int×Int},bT.f k p0=some r→ak P 121 [.agg [iA p0.Kind,iA p0.Sym,iA p0.N,tA (qGEx p0.Kids)]] [hA] (.tup [iA r.1,iA r.2])):=by
  intro k
  induction k using Nat.strongRecOn with
  |_ k ih=>
  · intro p0 r hh
    cases k with
    |zero=>unfold bT.f at hh;cases hh
    |succ k=>
    obtain⟨p0a,p0b,p0c,p0d⟩:=p0
    unfold bT.f at hh
    refine go (ts:=[(2,none),(3,none)]) (rm:=[.own,.own]) (pm:=[.skip]) Tryz.func121 ?_
    unhygienic intros
    cbv
    obtain⟨M,D,F⟩:=af hh
    refine ay hC eok mixed (fun n (i:Int×Int×Int)=>bT.l0 k (bT.f k) (⟨p0a,p0b,p0c,p0d⟩:GEx) n i.1 i.2.1 i.2.2)
     (fun⟨p,d,s⟩=>(⟨[(4,iA p),(5,iA d),(11,tA (qGEx p0d)),(12,iA (cast (len (qGEx p0d)))),(13,iA s)],[]⟩:St))
     (fun(⟨t,u⟩:Int×Int)=>(⟨[(4,iA t),(5,iA u)],[]⟩:St)) (fun x=>x) (.exit 0)
     (i0:=(_,_,_)) D (fun _=>rfl) ?_ ?_ ?_
    ·rintro⟨w,y,G⟩ e
     refine ai ?_
     cbv
     all_goals exact J3
    rintro⟨t,u⟩ hx
    subst M
    have hh:=F
    cbv
    exact Eb
    rintro n ⟨p,d,s⟩ Q R hh v H O
    try dsimp only at hh
    unfold bT.l0 at hh
    cbv
    refine bcs (fun b=>?_) (fun b=>?_)
    replace hh:=ifT hh b
    try rw[b]
    cbv
    obtain⟨I,hh⟩:=ac hh
    obtain⟨⟨z,A,B,C⟩,J,hh⟩:=af hh
    try dsimp only at hh
    refine⟨[iA z,iA A,iA B,tA (qGEx C)],Nb I,Gb J,?_⟩
    cbv
    obtain⟨⟨L,j⟩,K,hh⟩:=af hh
    try dsimp only at hh
    refine ag hF ((ih k (Nat.lt_succ_self k)) K) ?_
    cbv
    replace hh:=aG hh
    rcases hh with⟨o,hh⟩|⟨o,hh⟩
    have c:(lt d (wrap .i64 (add j 1)))=true:=Tb o
    have g:=c;cbv at g;try rw[c]
    try rw[g]
    cbv
    ·refine v (_,_,_) _ hh fun⟨w,y,G⟩ e=>?_
     refine ai ?_
     cbv
     all_goals exact J3
    have c:(lt d (wrap .i64 (add j 1)))=false:=Fb o
    have g:=c;cbv at g;try rw[c]
    try rw[g]
    cbv
    ·refine v (_,_,_) _ hh fun⟨w,y,G⟩ e=>?_
     refine ai ?_
     cbv
     all_goals exact J3
    replace hh:=ifF hh b
    try rw[b]
    cbv
    ·refine H (_,_) _ hh fun⟨w,y⟩ e=>?_
     refine ai ?_
     cbv
     all_goals exact J2
theorem vq {k:Nat} {p0:GEx} {r:Int×Int} (hh:bT.f k p0=some r):ak P 121 [.agg [iA p0.Kind,iA p0.Sym,iA p0.N,tA (qGEx p0.Kids)]] [hA] (.tup [iA r.1,iA r.2]):=(C6 hQ k) hh


theorem fR {p0:Int} {p1:Int} {p2:Int} {r:Bool} (hh:eW.f p0 p1 p2=some r):ak P 81 [iA p0,iA p1,iA p2] [hA,hA,hA] (bA r):=by
 unfold eW.f at hh
 refine go (ts:=[(6,none)]) (rm:=[.own]) (pm:=[.skip,.skip,.skip]) Tryz.func81 ?_
 unhygienic intros
 cbv
 replace hh:=aG hh
 rcases hh with⟨c,hh⟩|⟨c,hh⟩
 have b:(lt p0 p1)=true:=Tb c
 have g:=b;cbv at g;try rw[b]
 try rw[g]
 cbv
 exact Eb
 have b:(lt p0 p1)=false:=Fb c
 have g:=b;cbv at g;try rw[b]
 try rw[g]
 cbv
 exact Eb

theorem xc {p0:Int} {r:Bool} (hh:lJ.f p0=some r):ak P 176 [iA p0] [hA] (bA r):=by
 unfold lJ.f at hh
 refine go (ts:=[(2,none)]) (rm:=[.own]) (pm:=[.skip]) Tryz.func176 ?_
 unhygienic intros
 cbv
 obtain⟨c,b,hh⟩:=af hh
 refine ag hF (fR hQ b) ?_
 cbv
 exact Eb

theorem zV {p0:Int} {r:Int} (hh:n5.f p0=some r):ak P 177 [iA p0] [hA] (iA r):=by
 unfold n5.f at hh
 refine go (ts:=[(2,none)]) (rm:=[.own]) (pm:=[.skip]) Tryz.func177 ?_
 unhygienic intros
 cbv
 obtain⟨b,hh⟩:=ac hh
 obtain⟨c,hh⟩:=ac hh
 refine⟨Nb b,Mb c,?_⟩
 obtain⟨d,j,hh⟩:=af hh
 refine⟨[iA d],Gb j,?_⟩
 cbv
 exact Eb

theorem rr {p0:Int} {r:Bool} (hh:jp.f p0=some r):ak P 51 [iA p0] [hA] (bA r):=by
 unfold jp.f at hh
 refine go (ts:=[(2,none)]) (rm:=[.own]) (pm:=[.skip]) Tryz.func51 ?_
 unhygienic intros
 cbv
 obtain⟨c,b,hh⟩:=af hh
 refine ag hF (fR hQ b) ?_
 cbv
 exact Eb

theorem iK {k:Nat} {g1:GEx→Option Bool} (hg1:∀{y0:GEx} {r:Bool},g1 y0=some r→ak P 179 [.agg [iA y0.Kind,iA y0.Sym,iA y0.N,tA (qGEx y0.Kids)]] [hA] (bA r)) {p0:List GEx} {r:Int} (hh:bN.f g1 k p0=some r):ak P 213 [tA (qGEx p0),.clo 179 []] [hA,hA] (iA r):=by
 unfold bN.f at hh
 refine go (ts:=[(4,none)]) (rm:=[.own]) (pm:=[.skip,.skip]) Tryz.func213 ?_
 unhygienic intros
 cbv
 obtain⟨C,u,d⟩:=af hh
 refine ay hC eok mixed (bN.l0 k g1 p0)
  (fun j=>(⟨[(0,tA (qGEx p0)),(1,.clo 179 []),(7,iA (cast (len (qGEx p0)))),(8,iA j)],[]⟩:St))
  (fun(_:Unit)=>(⟨[],[]⟩:St)) .ok (.exit 0)
  (i0:=_) u (fun _=>rfl) ?_ ?_ ?_
 ·rintro D e
  refine ai ?_
  cbv
  all_goals exact J1
 rintro _ hx
 subst C
 have hh:=d
 cbv
 exact Eb
 rintro n j G H hh v w y
 unfold bN.l0 at hh
 cbv
 refine bcs (fun b=>?_) (fun b=>?_)
 replace hh:=ifT hh b
 try rw[b]
 cbv
 obtain⟨z,hh⟩:=ac hh
 obtain⟨⟨o,p,s,t⟩,A,hh⟩:=af hh
 try dsimp only at hh
 refine⟨[iA o,iA p,iA s,tA (qGEx t)],Nb z,Gb A,?_⟩
 cbv
 obtain⟨F,B,hh⟩:=af hh
 refine ag hF (hg1 B) ?_
 cbv
 refine bcs (fun c=>?_) (fun c=>?_)
 replace hh:=ifT hh c
 try rw[c]
 cbv
 cases hh
 have hh:some _=some _:=d
 refine y _ _ ?_
 cbv
 exact Eb
 replace hh:=ifF hh c
 try rw[c]
 cbv
 ·refine v _ _ hh fun D e=>?_
  refine ai ?_
  cbv
  all_goals exact J1
 replace hh:=ifF hh b
 try rw[b]
 cbv
 ·refine w () _ hh fun _ e=>?_
  refine ai ?_
  cbv
  all_goals exact J0

theorem cx {k:Nat} {g1:GEx→Option Bool} (hg1:∀{y0:GEx} {r:Bool},g1 y0=some r→ak P 179 [.agg [iA y0.Kind,iA y0.Sym,iA y0.N,tA (qGEx y0.Kids)]] [hA] (bA r)) {p0:List GEx} {r:Bool} (hh:cn.f g1 k p0=some r):ak P 178 [tA (qGEx p0),.clo 179 []] [hA,hA] (bA r):=by
 unfold cn.f at hh
 refine go (ts:=[(4,none)]) (rm:=[.own]) (pm:=[.skip,.skip]) Tryz.func178 ?_
 unhygienic intros
 cbv
 obtain⟨c,b,hh⟩:=af hh
 refine ag hF (iK hQ (g1:=g1) hg1 b) ?_
 cbv
 exact Eb

end Go.Proofs.YtlbnmldopjadoaaGreat
