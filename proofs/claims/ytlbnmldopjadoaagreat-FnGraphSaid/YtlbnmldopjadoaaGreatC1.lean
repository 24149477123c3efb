/- The functions of this program do what the plain ones do. -/
import Derived.Test.YtlbnmldopjadoaaGreatC0
namespace Go.Proofs.YtlbnmldopjadoaaGreat
open Go Go.Vm
set_option linter.unusedVariables false
set_option maxHeartbeats 4000000
set_option maxRecDepth 4000
variable {qIu8:List Int→Vm.Rows} {qInt:List Int→Vm.Rows} {qGExO:List GEx→Vm.Rows} {qGEx:List GEx→Vm.Rows} {qGEv:List GEv→Vm.Rows} {qGOcc:List GOcc→Vm.Rows} {qGNode:List GNode→Vm.Rows} {qLGOcc:List (List GOcc)→Vm.Rows} {qLInt:List (List Int)→Vm.Rows} {qGOccO:List GOcc→Vm.Rows} {qStr:List ByteArray→Vm.Rows} {qGNodeS:List GNode→Vm.Rows} {qBool:List Bool→Vm.Rows} (hQ:EQ qIu8 qInt qGExO qGEx qGEv qGOcc qGNode qLGOcc qLInt qGOccO qStr qGNodeS qBool)
include hQ
theorem Dx:∀k:Nat,(∀{p0:GEx} {r:Bool},cd.f k p0=some r→ak P 179 [.agg [iA p0.Kind,iA p0.Sym,iA p0.N,tA (qGEx p0.Kids)]] [hA] (bA r))∧(∀{p0:GEx} {r:Bool},en.f k p0=some r→ak P 122 [.agg [iA p0.Kind,iA p0.Sym,iA p0.N,tA (qGEx p0.Kids)]] [hA] (bA r)):=by
  intro k
  induction k using Nat.strongRecOn with
  |_ k ih=>
  refine⟨?_,?_⟩
  · intro p0 r hh
    cases k with
    |zero=>unfold cd.f at hh;cases hh
    |succ k=>
    obtain⟨p0a,p0b,p0c,p0d⟩:=p0
    unfold cd.f at hh
    refine go (ts:=[(2,none)]) (rm:=[.own]) (pm:=[.skip]) Tryz.func179 ?_
    unhygienic intros
    cbv
    obtain⟨I,J,hh⟩:=af hh
    refine ag hF ((ih k (Nat.lt_succ_self k)).2 J) ?_
    cbv
    exact Eb
  · intro p0 r hh
    cases k with
    |zero=>unfold en.f at hh;cases hh
    |succ k=>
    obtain⟨p0a,p0b,p0c,p0d⟩:=p0
    unfold en.f at hh
    refine go (ts:=[(2,none)]) (rm:=[.own]) (pm:=[.skip]) Tryz.func122 ?_
    unhygienic intros
    cbv
    obtain⟨I,J,hh⟩:=af hh
    refine ag hF (xc hQ J) ?_
    cbv
    replace hh:=aG hh
    rcases hh with⟨K,hh⟩|⟨K,hh⟩
    have w:I=true:=Tb K
    have g:=w;cbv at g;try rw[w]
    try rw[g]
    cbv
    obtain⟨M,W,hh⟩:=af hh
    refine ag hF (zV hQ W) ?_
    cbv
    replace hh:=aG hh
    rcases hh with⟨L,hh⟩|⟨L,hh⟩
    have j:(eq (cast (len (qGEx p0d))) M)=true:=Tb L
    have g:=j;cbv at g;try rw[j]
    try rw[g]
    cbv
    refine bcs (fun b=>?_) (fun b=>?_)
    replace hh:=ifT hh b
    try rw[b]
    cbv
    obtain⟨F,O,hh⟩:=af hh
    refine ag hF (rr hQ O) ?_
    cbv
    replace hh:=aG hh
    rcases hh with⟨y,hh⟩|⟨y,hh⟩
    have o:F=true:=Tb y
    have g:=o;cbv at g;try rw[o]
    try rw[g]
    cbv
    first|rw[b]|(have g:=b;cbv at g;rw[g])
    cbv
    refine bcs (fun c=>?_) (fun c=>?_)
    replace hh:=ifT hh c
    try rw[c]
    cbv
    obtain⟨G,Q,hh⟩:=af hh
    refine ag hF (fR hQ Q) ?_
    cbv
    replace hh:=aG hh
    rcases hh with⟨z,hh⟩|⟨z,hh⟩
    have p:G=true:=Tb z
    have g:=p;cbv at g;try rw[p]
    try rw[g]
    cbv
    first|rw[c]|(have g:=c;cbv at g;rw[g])
    cbv
    obtain⟨X,R,hh⟩:=af hh
    refine ag hF (cx hQ (g1:=fun y0=>cd.f k y0) (fun h=>(ih k (Nat.lt_succ_self k)).1 h) R) ?_
    cbv
    exact Eb
    have p:G=false:=Fb z
    have g:=p;cbv at g;try rw[p]
    try rw[g]
    cbv
    exact Eb
    replace hh:=ifF hh c
    try rw[c]
    cbv
    first|rw[c]|(have g:=c;cbv at g;rw[g])
    cbv
    replace hh:=aG hh
    rcases hh with⟨A,hh⟩|⟨A,hh⟩
    have s:(eq p0c 0)=true:=Tb A
    have g:=s;cbv at g;try rw[s]
    try rw[g]
    cbv
    obtain⟨Y,S,hh⟩:=af hh
    refine ag hF (cx hQ (g1:=fun y0=>cd.f k y0) (fun h=>(ih k (Nat.lt_succ_self k)).1 h) S) ?_
    cbv
    exact Eb
    have s:(eq p0c 0)=false:=Fb A
    have g:=s;cbv at g;try rw[s]
    try rw[g]
    cbv
    exact Eb
    have o:F=false:=Fb y
    have g:=o;cbv at g;try rw[o]
    try rw[g]
    cbv
    exact Eb
    replace hh:=ifF hh b
    try rw[b]
    cbv
    first|rw[b]|(have g:=b;cbv at g;rw[g])
    cbv
    replace hh:=aG hh
    rcases hh with⟨B,hh⟩|⟨B,hh⟩
    have t:(eq p0b 0)=true:=Tb B
    have g:=t;cbv at g;try rw[t]
    try rw[g]
    cbv
    refine bcs (fun d=>?_) (fun d=>?_)
    replace hh:=ifT hh d
    try rw[d]
    cbv
    obtain⟨H,T,hh⟩:=af hh
    refine ag hF (fR hQ T) ?_
    cbv
    replace hh:=aG hh
    rcases hh with⟨C,hh⟩|⟨C,hh⟩
    have u:H=true:=Tb C
    have g:=u;cbv at g;try rw[u]
    try rw[g]
    cbv
    first|rw[d]|(have g:=d;cbv at g;rw[g])
    cbv
    obtain⟨Z,U,hh⟩:=af hh
    refine ag hF (cx hQ (g1:=fun y0=>cd.f k y0) (fun h=>(ih k (Nat.lt_succ_self k)).1 h) U) ?_
    cbv
    exact Eb
    have u:H=false:=Fb C
    have g:=u;cbv at g;try rw[u]
    try rw[g]
    cbv
    exact Eb
    replace hh:=ifF hh d
    try rw[d]
    cbv
    first|rw[d]|(have g:=d;cbv at g;rw[g])
    cbv
    replace hh:=aG hh
    rcases hh with⟨D,hh⟩|⟨D,hh⟩
    have v:(eq p0c 0)=true:=Tb D
    have g:=v;cbv at g;try rw[v]
    try rw[g]
    cbv
    obtain⟨ek,V,hh⟩:=af hh
    refine ag hF (cx hQ (g1:=fun y0=>cd.f k y0) (fun h=>(ih k (Nat.lt_succ_self k)).1 h) V) ?_
    cbv
    exact Eb
    have v:(eq p0c 0)=false:=Fb D
    have g:=v;cbv at g;try rw[v]
    try rw[g]
    cbv
    exact Eb
    have t:(eq p0b 0)=false:=Fb B
    have g:=t;cbv at g;try rw[t]
    try rw[g]
    cbv
    exact Eb
    have j:(eq (cast (len (qGEx p0d))) M)=false:=Fb L
    have g:=j;cbv at g;try rw[j]
    try rw[g]
    cbv
    exact Eb
    have w:I=false:=Fb K
    have g:=w;cbv at g;try rw[w]
    try rw[g]
    cbv
    exact Eb
theorem tJ {k:Nat} {p0:GEx} {r:Bool} (hh:en.f k p0=some r):ak P 122 [.agg [iA p0.Kind,iA p0.Sym,iA p0.N,tA (qGEx p0.Kids)]] [hA] (bA r):=(Dx hQ k).2 hh



theorem oj {k:Nat} {p0:GEx} {r:Bool} (hh:je.f k p0=some r):ak P 55 [.agg [iA p0.Kind,iA p0.Sym,iA p0.N,tA (qGEx p0.Kids)]] [hA] (bA r):=by
 obtain⟨p0a,p0b,p0c,p0d⟩:=p0
 unfold je.f at hh
 refine go (ts:=[(2,none)]) (rm:=[.own]) (pm:=[.skip]) Tryz.func55 ?_
 unhygienic intros
 cbv
 obtain⟨⟨b,c⟩,s,hh⟩:=af hh
 try dsimp only at hh
 refine ag hF (vq hQ s) ?_
 cbv
 replace hh:=aG hh
 rcases hh with⟨o,hh⟩|⟨o,hh⟩
 have d:(lt 12 b)=true:=Tb o
 have g:=d;cbv at g;try rw[d]
 try rw[g]
 cbv
 exact Eb
 have d:(lt 12 b)=false:=Fb o
 have g:=d;cbv at g;try rw[d]
 try rw[g]
 cbv
 replace hh:=aG hh
 rcases hh with⟨p,hh⟩|⟨p,hh⟩
 have j:(lt 5 c)=true:=Tb p
 have g:=j;cbv at g;try rw[j]
 try rw[g]
 cbv
 exact Eb
 have j:(lt 5 c)=false:=Fb p
 have g:=j;cbv at g;try rw[j]
 try rw[g]
 cbv
 obtain⟨u,t,hh⟩:=af hh
 refine ag hF (tJ hQ t) ?_
 cbv
 exact Eb

theorem ix {p0:Int} {r:Bool} (hh:dr.f p0=some r):ak P 58 [iA p0] [hA] (bA r):=by
 unfold dr.f at hh
 refine go (ts:=[(2,none)]) (rm:=[.own]) (pm:=[.skip]) Tryz.func58 ?_
 unhygienic intros
 cbv
 obtain⟨c,b,hh⟩:=af hh
 refine ag hF (fR hQ b) ?_
 cbv
 exact Eb

theorem zF {p0:GEv} {r:Bool} (hh:md.f p0=some r):ak P 126 [.agg [iA p0.Sym,iA p0.At,iA p0.Val]] [hA] (bA r):=by
 obtain⟨p0a,p0b,p0c⟩:=p0
 unfold md.f at hh
 refine go (ts:=[(2,none)]) (rm:=[.own]) (pm:=[.skip]) Tryz.func126 ?_
 unhygienic intros
 cbv
 obtain⟨s,j,hh⟩:=af hh
 refine ag hF (rr hQ j) ?_
 cbv
 refine bcs (fun c=>?_) (fun c=>?_)
 replace hh:=ifT hh c
 try rw[c]
 cbv
 obtain⟨t,o,hh⟩:=af hh
 refine ag hF (fR hQ o) ?_
 cbv
 refine bcs (fun b=>?_) (fun b=>?_)
 replace hh:=ifT hh b
 try rw[b]
 cbv
 obtain⟨p,d,hh⟩:=af hh
 refine ag hF (fR hQ d) ?_
 cbv
 exact Eb
 replace hh:=ifF hh b
 try rw[b]
 cbv
 exact Eb
 replace hh:=ifF hh c
 try rw[c]
 cbv
 exact Eb

theorem qU {k:Nat} {p0:List GEv} {r:Bool} (hh:dg.f k p0=some r):ak P 59 [tA (qGEv p0)] [hA] (bA r):=by
 unfold dg.f at hh
 refine go (ts:=[(2,none)]) (rm:=[.own]) (pm:=[.skip]) Tryz.func59 ?_
 unhygienic intros
 cbv
 obtain⟨N,F,s⟩:=af hh
 refine ay hC eok mixed (dg.l0 k p0)
  (fun v=>(⟨[(0,tA (qGEv p0)),(5,tA (qGEv p0)),(6,iA (cast (len (qGEv p0)))),(7,iA v)],[]⟩:St))
  (fun(_:Unit)=>(⟨[(0,tA (qGEv p0))],[]⟩:St)) .ok (.exit 0)
  (i0:=_) F (fun _=>rfl) ?_ ?_ ?_
 ·rintro G e
  refine ai ?_
  cbv
  all_goals exact J1
 rintro _ hx
 subst N
 have hh:=s
 cbv
 exact Eb
 rintro n v O Q hh w H y
 unfold dg.l0 at hh
 cbv
 refine bcs (fun b=>?_) (fun b=>?_)
 replace hh:=ifT hh b
 try rw[b]
 cbv
 obtain⟨I,hh⟩:=ac hh
 obtain⟨⟨A,o,B⟩,J,hh⟩:=af hh
 try dsimp only at hh
 refine⟨[iA A,iA o,iA B],Nb I,Gb J,?_⟩
 cbv
 obtain⟨z,K,hh⟩:=af hh
 refine ag hF (zF hQ K) ?_
 cbv
 replace hh:=aG hh
 rcases hh with⟨t,hh⟩|⟨t,hh⟩
 have c:z=true:=Tb t
 have g:=c;cbv at g;try rw[c]
 try rw[g]
 cbv
 refine bcs (fun d=>?_) (fun d=>?_)
 replace hh:=ifT hh d
 try rw[d]
 cbv
 obtain⟨L,hh⟩:=ac hh
 obtain⟨⟨C,p,D⟩,M,hh⟩:=af hh
 try dsimp only at hh
 refine⟨[iA C,iA p,iA D],Nb L,Gb M,?_⟩
 cbv
 replace hh:=aG hh
 rcases hh with⟨u,hh⟩|⟨u,hh⟩
 have j:(lt p o)=true:=Tb u
 have g:=j;cbv at g;try rw[j]
 try rw[g]
 cbv
 ·refine w _ _ hh fun G e=>?_
  refine ai ?_
  cbv
  all_goals exact J1
 have j:(lt p o)=false:=Fb u
 have g:=j;cbv at g;try rw[j]
 try rw[g]
 cbv
 cases hh
 have hh:some _=some _:=s
 refine y _ _ ?_
 cbv
 exact Eb
 replace hh:=ifF hh d
 try rw[d]
 cbv
 ·refine w _ _ hh fun G e=>?_
  refine ai ?_
  cbv
  all_goals exact J1
 have c:z=false:=Fb t
 have g:=c;cbv at g;try rw[c]
 try rw[g]
 cbv
 cases hh
 have hh:some _=some _:=s
 refine y _ _ ?_
 cbv
 exact Eb
 replace hh:=ifF hh b
 try rw[b]
 cbv
 ·refine H () _ hh fun _ e=>?_
  refine ai ?_
  cbv
  all_goals exact J0

theorem u5 {k:Nat} {p0:List Int} {p1:List Int} {r:Bool} (hh:da.f k p0 p1=some r):ak P 113 [tA (qInt p0),tA (qInt p1)] [hA,hA] (bA r):=by
 unfold da.f at hh
 refine go (ts:=[(4,none)]) (rm:=[.own]) (pm:=[.skip,.skip]) Tryz.func113 ?_
 unhygienic intros
 cbv
 replace hh:=aG hh
 rcases hh with⟨u,hh⟩|⟨u,hh⟩
 have d:(eq (cast (len (qInt p0))) (cast (len (qInt p1))))=true:=Tb u
 have g:=d;cbv at g;try rw[d]
 try rw[g]
 cbv
 obtain⟨F,v,s⟩:=af hh
 refine ay hC eok mixed (da.l0 k p0 p1)
  (fun t=>(⟨[(0,tA (qInt p0)),(1,tA (qInt p1)),(12,iA (cast (len (qInt p0)))),(13,iA t)],[]⟩:St))
  (fun(_:Unit)=>(⟨[],[]⟩:St)) .ok (.exit 0)
  (i0:=_) v (fun _=>rfl) ?_ ?_ ?_
 ·rintro G e
  refine ai ?_
  cbv
  all_goals exact J1
 rintro _ hx
 subst F
 have hh:=s
 cbv
 exact Eb
 rintro n t H I hh w y z
 unfold da.l0 at hh
 cbv
 refine bcs (fun b=>?_) (fun b=>?_)
 replace hh:=ifT hh b
 try rw[b]
 cbv
 obtain⟨A,hh⟩:=ac hh
 obtain⟨j,B,hh⟩:=af hh
 refine⟨[iA j],Nb A,Gb B,?_⟩
 cbv
 obtain⟨C,hh⟩:=ac hh
 obtain⟨o,D,hh⟩:=af hh
 refine⟨[iA o],Nb C,Gb D,?_⟩
 cbv
 replace hh:=aG hh
 rcases hh with⟨p,hh⟩|⟨p,hh⟩
 have c:(eq j o)=true:=Tb p
 have g:=c;cbv at g;try rw[c]
 try rw[g]
 cbv
 ·refine w _ _ hh fun G e=>?_
  refine ai ?_
  cbv
  all_goals exact J1
 have c:(eq j o)=false:=Fb p
 have g:=c;cbv at g;try rw[c]
 try rw[g]
 cbv
 cases hh
 have hh:some _=some _:=s
 refine z _ _ ?_
 cbv
 exact Eb
 replace hh:=ifF hh b
 try rw[b]
 cbv
 ·refine y () _ hh fun _ e=>?_
  refine ai ?_
  cbv
  all_goals exact J0
 have d:(eq (cast (len (qInt p0))) (cast (len (qInt p1))))=false:=Fb u
 have g:=d;cbv at g;try rw[d]
 try rw[g]
 cbv
 exact Eb

theorem rk {k:Nat} {p0:GNode} {c0:GNode} {r:Bool} (hh:ei.f k p0 c0=some r):ak P 181 [.agg [iA p0.Kind,iA p0.Sym,iA p0.N,tA (qInt p0.Kids),tA (qGOcc p0.Pair.Left),tA (qGOcc p0.Pair.Right),tA (qGOcc p0.Span.Left),tA (qGOcc p0.Span.Mid),tA (qGOcc p0.Due),iA p0.Many],.iptr [iA c0.Kind,iA c0.Sym,iA c0.N,tA (qInt c0.Kids),tA (qGOcc c0.Pair.Left),tA (qGOcc c0.Pair.Right),tA (qGOcc c0.Span.Left),tA (qGOcc c0.Span.Mid),tA (qGOcc c0.Due),iA c0.Many] 0] [hA,hA] (bA r):=by
 obtain⟨p0a,p0b,p0c,p0d,⟨p0e,p0f⟩,⟨p0g,p0h⟩,p0i,p0j⟩:=p0
 obtain⟨c0a,c0b,c0c,c0d,⟨c0e,c0f⟩,⟨c0g,c0h⟩,c0i,c0j⟩:=c0
 unfold ei.f at hh
 refine go (ts:=[(3,none)]) (rm:=[.own]) (pm:=[.skip,.skip]) Tryz.func181 ?_
 unhygienic intros
 cbv
 refine bcs (fun b=>?_) (fun b=>?_)
 replace hh:=ifT hh b
 try rw[b]
 cbv
 refine bcs (fun c=>?_) (fun c=>?_)
 replace hh:=ifT hh c
 try rw[c]
 cbv
 refine bcs (fun d=>?_) (fun d=>?_)
 replace hh:=ifT hh d
 try rw[d]
 cbv
 obtain⟨o,j,hh⟩:=af hh
 refine ag hF (u5 hQ j) ?_
 cbv
 exact Eb
 replace hh:=ifF hh d
 try rw[d]
 cbv
 exact Eb
 replace hh:=ifF hh c
 try rw[c]
 cbv
 exact Eb
 replace hh:=ifF hh b
 try rw[b]
 cbv
 exact Eb

theorem ik {k:Nat} {g1:GNode→Option Bool} {cp1_0:GNode} (hg1:∀{y0:GNode} {r:Bool},g1 y0=some r→ak P 181 [.agg [iA y0.Kind,iA y0.Sym,iA y0.N,tA (qInt y0.Kids),tA (qGOcc y0.Pair.Left),tA (qGOcc y0.Pair.Right),tA (qGOcc y0.Span.Left),tA (qGOcc y0.Span.Mid),tA (qGOcc y0.Due),iA y0.Many],.iptr [iA cp1_0.Kind,iA cp1_0.Sym,iA cp1_0.N,tA (qInt cp1_0.Kids),tA (qGOcc cp1_0.Pair.Left),tA (qGOcc cp1_0.Pair.Right),tA (qGOcc cp1_0.Span.Left),tA (qGOcc cp1_0.Span.Mid),tA (qGOcc cp1_0.Due),iA cp1_0.Many] 0] [hA,hA] (bA r)) {p0:List GNode} {r:Int} (hh:bg.f g1 k p0=some r):ak P 180 [tA (qGNode p0),.clo 181 [.iptr [iA cp1_0.Kind,iA cp1_0.Sym,iA cp1_0.N,tA (qInt cp1_0.Kids),tA (qGOcc cp1_0.Pair.Left),tA (qGOcc cp1_0.Pair.Right),tA (qGOcc cp1_0.Span.Left),tA (qGOcc cp1_0.Span.Mid),tA (qGOcc cp1_0.Due),iA cp1_0.Many] 0]] [hA,hA] (iA r):=by
 obtain⟨cp1_0a,cp1_0b,cp1_0c,cp1_0d,⟨cp1_0e,cp1_0f⟩,⟨cp1_0g,cp1_0h⟩,cp1_0i,cp1_0j⟩:=cp1_0
 unfold bg.f at hh
 refine go (ts:=[(4,none)]) (rm:=[.own]) (pm:=[.skip,.skip]) Tryz.func180 ?_
 unhygienic intros
 cbv
 obtain⟨J,B,d⟩:=af hh
 refine ay hC eok mixed (bg.l0 k g1 p0)
  (fun j=>(⟨[(0,tA (qGNode p0)),(1,.clo 181 [.iptr [iA cp1_0a,iA cp1_0b,iA cp1_0c,tA (qInt cp1_0d),tA (qGOcc cp1_0e),tA (qGOcc cp1_0f),tA (qGOcc cp1_0g),tA (qGOcc cp1_0h),tA (qGOcc cp1_0i),iA cp1_0j] 0]),(7,iA (cast (len (qGNode p0)))),(8,iA j)],[]⟩:St))
  (fun(_:Unit)=>(⟨[],[]⟩:St)) .ok (.exit 0)
  (i0:=_) B (fun _=>rfl) ?_ ?_ ?_
 ·rintro K e
  refine ai ?_
  cbv
  all_goals exact J1
 rintro _ hx
 subst J
 have hh:=d
 cbv
 exact Eb
 rintro n j M O hh C D F
 unfold bg.l0 at hh
 cbv
 refine bcs (fun b=>?_) (fun b=>?_)
 replace hh:=ifT hh b
 try rw[b]
 cbv
 obtain⟨G,hh⟩:=ac hh
 obtain⟨⟨o,p,s,t,⟨u,v⟩,⟨w,y⟩,z,A⟩,H,hh⟩:=af hh
 try dsimp only at hh
 refine⟨[iA o,iA p,iA s,tA (qInt t),tA (qGOcc u),tA (qGOcc v),tA (qGOcc w),tA (qGOcc y),tA (qGOcc z),iA A],Nb G,Gb H,?_⟩
 cbv
 obtain⟨L,I,hh⟩:=af hh
 refine ag hF (hg1 I) ?_
 cbv
 refine bcs (fun c=>?_) (fun c=>?_)
 replace hh:=ifT hh c
 try rw[c]
 cbv
 cases hh
 have hh:some _=some _:=d
 refine F _ _ ?_
 cbv
 exact Eb
 replace hh:=ifF hh c
 try rw[c]
 cbv
 ·refine C _ _ hh fun K e=>?_
  refine ai ?_
  cbv
  all_goals exact J1
 replace hh:=ifF hh b
 try rw[b]
 cbv
 ·refine D () _ hh fun _ e=>?_
  refine ai ?_
  cbv
  all_goals exact J0
theorem gD {k:Nat} {g1:GNode→Option Bool} {cp1_0:GNode} (hg1:∀{y0:GNode} {r:Bool},g1 y0=some r→ak P 181 [.agg [iA y0.Kind,iA y0.Sym,iA y0.N,tA (qInt y0.Kids),tA (qGOcc y0.Pair.Left),tA (qGOcc y0.Pair.Right),tA (qGOcc y0.Span.Left),tA (qGOcc y0.Span.Mid),tA (qGOcc y0.Due),iA y0.Many],.iptr [iA cp1_0.Kind,iA cp1_0.Sym,iA cp1_0.N,tA (qInt cp1_0.Kids),tA (qGOcc cp1_0.Pair.Left),tA (qGOcc cp1_0.Pair.Right),tA (qGOcc cp1_0.Span.Left),tA (qGOcc cp1_0.Span.Mid),tA (qGOcc cp1_0.Due),iA cp1_0.Many] 0] [hA,hA] (bA r)) {p0:List GNode} {r:Int} (hh:bg.f g1 k p0=some r):ak P 180 [oA 10 (qGNode p0),.clo 181 [.iptr [iA cp1_0.Kind,iA cp1_0.Sym,iA cp1_0.N,tA (qInt cp1_0.Kids),tA (qGOcc cp1_0.Pair.Left),tA (qGOcc cp1_0.Pair.Right),tA (qGOcc cp1_0.Span.Left),tA (qGOcc cp1_0.Span.Mid),tA (qGOcc cp1_0.Due),iA cp1_0.Many] 0]] [oA 10 (qGNode p0),hA] (iA r):=by
  cases hQ;exact(ik .mk hg1 hh).lend (rfl) (.lend (congrArg A.tree (uQ _).symm) (.same rfl .nil))

theorem DM:∀k:Nat,(∀{p0:GGraph} {p1:GEx} {r:Int×GGraph},bz.f k p0 p1=some r→ak P 127 [.obox [iA p0.Mode,oA 10 (qGNode p0.Nodes),iA p0.Seen,iA p0.Now,bA p0.Full],.agg [iA p1.Kind,iA p1.Sym,iA p1.N,tA (qGEx p1.Kids)]] [.obox [iA r.2.Mode,oA 10 (qGNode r.2.Nodes),iA r.2.Seen,iA r.2.Now,bA r.2.Full],hA] (iA r.1)):=by
  intro k
  induction k using Nat.strongRecOn with
  |_ k ih=>
  · intro p0 p1 r hh
    cases k with
    |zero=>unfold bz.f at hh;cases hh
    |succ k=>
    obtain⟨p0a,p0b,p0c,p0d,p0e⟩:=p0
    obtain⟨p1a,p1b,p1c,p1d⟩:=p1
    unfold bz.f at hh
    refine go (ts:=[(4,none)]) (rm:=[.own]) (pm:=[.own,.skip]) Tryz.func127 ?_
    unhygienic intros
    cbv
    obtain⟨o1,H,I⟩:=af hh
    refine ay hC eok mixed (fun n (i:Int×(List GNode)×Int×Int×Bool×(List Int)×Int)=>bz.l0 k (bz.f k) (⟨p1a,p1b,p1c,p1d⟩:GEx) n i.1 i.2.1 i.2.2.1 i.2.2.2.1 i.2.2.2.2.1 i.2.2.2.2.2.1 i.2.2.2.2.2.2)
     (fun⟨s,j,t,u,v,o,w⟩=>(⟨[(0,.mptr (0,0) 1 0 0),(5,.mptr (5,0) 1 0 0),(17,tA (qGEx p1d)),(18,iA (cast (len (qGEx p1d)))),(19,iA w),(1000000,.mptr (0,0) 1 0 0)],[((0,0),.box 1 [iA s,.ref (900,0) 1 0 (len (qGNode j)),iA t,iA u,bA v]),((5,0),.box 1 [iA p1a,iA p1b,iA p1c,.ref (5,53) 1 0 (len (qInt o)),.lit (.slice none 0 0),.lit (.slice none 0 0),.lit (.slice none 0 0),.lit (.slice none 0 0),.lit (.slice none 0 0),iA 0]),((5,53),.arr 1 1 (qInt o)),((900,0),.arr 1 10 (qGNode j))]⟩:St))
     (fun(⟨y,p,z,A,B,d⟩:Int×(List GNode)×Int×Int×Bool×(List Int))=>(⟨[(0,.mptr (0,0) 1 0 0),(5,.mptr (5,0) 1 0 0),(1000000,.mptr (0,0) 1 0 0)],[((0,0),.box 1 [iA y,.ref (900,0) 1 0 (len (qGNode p)),iA z,iA A,bA B]),((5,0),.box 1 [iA p1a,iA p1b,iA p1c,.ref (5,53) 1 0 (len (qInt d)),.lit (.slice none 0 0),.lit (.slice none 0 0),.lit (.slice none 0 0),.lit (.slice none 0 0),.lit (.slice none 0 0),iA 0]),((5,53),.arr 1 1 (qInt d)),((900,0),.arr 1 10 (qGNode p))]⟩:St)) (fun x=>x) (.exit 0)
     (i0:=(_,_,_,_,_,_,_)) H (fun _=>rfl) ?_ ?_ ?_
    ·rintro⟨J,K,L,M,O,Q,t6⟩ e
     refine lB hC (0,0) 900 ?_
     cbv
     refine aq [((0,0),(0,0)),((5,0),(5,0)),((900,0),(900,0))] ?_
     cbv
     all_goals exact J7
    rintro⟨y,p,z,A,B,d⟩ hx
    subst o1
    have hh:=I
    cbv
    obtain⟨Fm,R,hh⟩:=af hh
    refine⟨Ob,?_⟩
    refine ag hF (gD hQ (g1:=fun y0=>ei.f k y0 ((⟨p1a,p1b,p1c,d,(⟨[],[]⟩:aB),(⟨[],[]⟩:ax),[],0⟩:GNode))) (fun h=>rk hQ h) R) ?_
    cbv
    refine bcs (fun b=>?_) (fun b=>?_)
    replace hh:=ifT hh b
    try rw[b]
    cbv
    obtain⟨S,hh⟩:=ac hh
    refine⟨⟨Ob,Ab⟩,?_⟩
    refine⟨⟨Ob,Wb S⟩,?_⟩
    exact Eb
    replace hh:=ifF hh b
    try rw[b]
    cbv
    exact Eb
    rintro n ⟨s,j,t,u,v,o,w⟩ N1 D1 hh T U Fo
    try dsimp only at hh
    unfold bz.l0 at hh
    cbv
    refine bcs (fun c=>?_) (fun c=>?_)
    replace hh:=ifT hh c
    try rw[c]
    cbv
    obtain⟨V,hh⟩:=ac hh
    obtain⟨⟨C,D,F,G⟩,W,hh⟩:=af hh
    try dsimp only at hh
    refine⟨[iA C,iA D,iA F,tA (qGEx G)],Nb V,Gb W,?_⟩
    cbv
    obtain⟨⟨Ff,⟨X,Y,Z,ek,EJ⟩⟩,E2,hh⟩:=af hh
    try dsimp only at hh
    have fc:=(ih k (Nat.lt_succ_self k)) E2
    try dsimp only at fc
    refine ag hF fc ?_
    cbv
    obtain⟨E3,hh⟩:=ac hh
    refine⟨⟨Ob,Ab⟩,?_⟩
    refine⟨⟨Ob,Wb E3⟩,?_⟩
    ·refine T (_,_,_,_,_,_,_) _ hh fun⟨J,K,L,M,O,Q,t6⟩ e=>?_
     refine lB hC (0,0) 900 ?_
     cbv
     refine aq [((0,0),(0,0)),((5,0),(5,0)),((5,53),(29,0)),((900,0),(900,0))] ?_
     cbv
     all_goals exact J7
    replace hh:=ifF hh c
    try rw[c]
    cbv
    ·refine U (_,_,_,_,_,_) _ hh fun⟨J,K,L,M,O,Q⟩ e=>?_
     refine ai ?_
     cbv
     all_goals exact J6
theorem tp {k:Nat} {p0:GGraph} {p1:GEx} {r:Int×GGraph} (hh:bz.f k p0 p1=some r):ak P 127 [.obox [iA p0.Mode,oA 10 (qGNode p0.Nodes),iA p0.Seen,iA p0.Now,bA p0.Full],.agg [iA p1.Kind,iA p1.Sym,iA p1.N,tA (qGEx p1.Kids)]] [.obox [iA r.2.Mode,oA 10 (qGNode r.2.Nodes),iA r.2.Seen,iA r.2.Now,bA r.2.Full],hA] (iA r.1):=(DM hQ k) hh


theorem vg {k:Nat} {p0:GEx} {p1:Int} {r:GGraph} (hh:jb.f k p0 p1=some r):ak P 60 [.agg [iA p0.Kind,iA p0.Sym,iA p0.N,tA (qGEx p0.Kids)],iA p1] [hA,hA] (.agg [iA r.Mode,oA 10 (qGNode r.Nodes),iA r.Seen,iA r.Now,bA r.Full]):=by
 obtain⟨p0a,p0b,p0c,p0d⟩:=p0
 unfold jb.f at hh
 refine go (ts:=[(4,some 91)]) (rm:=[.own]) (pm:=[.skip,.skip]) Tryz.func60 ?_
 unhygienic intros
 cbv
 obtain⟨o,A,hh⟩:=af hh
 refine ag hF (oj hQ A) ?_
 cbv
 replace hh:=aG hh
 rcases hh with⟨d,hh⟩|⟨d,hh⟩
 have c:o=true:=Tb d
 have g:=c;cbv at g;try rw[c]
 try rw[g]
 cbv
 obtain⟨p,B,hh⟩:=af hh
 refine ag hF (ix hQ B) ?_
 cbv
 replace hh:=aG hh
 rcases hh with⟨j,hh⟩|⟨j,hh⟩
 have b:p=true:=Tb j
 have g:=b;cbv at g;try rw[b]
 try rw[g]
 cbv
 obtain⟨⟨z,⟨s,t,u,v,w⟩⟩,y,hh⟩:=af hh
 try dsimp only at hh
 refine⟨10,?_⟩
 cbv
 have fc:=tp hQ y
 try dsimp only at fc
 refine ag hF fc ?_
 cbv
 exact Eb
 have b:p=false:=Fb j
 have g:=b;cbv at g;try rw[b]
 try rw[g]
 cbv
 refine⟨10,?_⟩
 cbv
 exact Eb
 have c:o=false:=Fb d
 have g:=c;cbv at g;try rw[c]
 try rw[g]
 cbv
 refine⟨10,?_⟩
 cbv
 exact Eb

theorem sZ {k:Nat} {p0:GGraph} {p1:Int} {r:Int×Bool×GGraph} (hh:aX.f k p0 p1=some r):ak P 129 [.obox [iA p0.Mode,oA 10 (qGNode p0.Nodes),iA p0.Seen,iA p0.Now,bA p0.Full],iA p1] [.obox [iA r.2.2.Mode,oA 10 (qGNode r.2.2.Nodes),iA r.2.2.Seen,iA r.2.2.Now,bA r.2.2.Full],hA] (.tup [iA r.1,bA r.2.1]):=by
 obtain⟨p0a,p0b,p0c,p0d,p0e⟩:=p0
 unfold aX.f at hh
 refine go (ts:=[(4,none),(5,none)]) (rm:=[.own,.own]) (pm:=[.own,.skip]) Tryz.func129 ?_
 unhygienic intros
 cbv
 obtain⟨o1,Q,R⟩:=af hh
 refine ay hC eok mixed (fun n (i:Int×Int)=>aX.l2 k (⟨p0a,p0b,p0c,p0d,p0e⟩:GGraph) n i.1 i.2)
  (fun⟨H,p⟩=>(⟨[(1,iA p1),(6,iA H),(15,.ref (15,0) 1 0 (len (qGNode p0b))),(16,iA (cast (len (qGNode p0b)))),(17,iA p),(1000000,.mptr (0,0) 1 0 0)],[((0,0),.box 1 [iA p0a,.ref (15,0) 1 0 (len (qGNode p0b)),iA p0c,iA p0d,bA p0e]),((15,0),.arr 1 10 (qGNode p0b))]⟩:St))
  (fun(I:Int)=>(⟨[(1,iA p1),(6,iA I),(1000000,.mptr (0,0) 1 0 0)],[((0,0),.box 1 [iA p0a,.ref (15,0) 1 0 (len (qGNode p0b)),iA p0c,iA p0d,bA p0e]),((15,0),.arr 1 10 (qGNode p0b))]⟩:St)) (fun x=>x) (.exit 0)
  (i0:=(_,_)) Q (fun _=>rfl) ?_ ?_ ?_
 ·rintro⟨t,G⟩ e
  refine ai ?_
  cbv
  all_goals exact J2
 rintro I hx
 subst o1
 have hh:=R
 cbv
 exact Eb
 rintro n ⟨H,p⟩ N1 D1 hh S T E3
 try dsimp only at hh
 unfold aX.l2 at hh
 cbv
 refine bcs (fun c=>?_) (fun c=>?_)
 replace hh:=ifT hh c
 try rw[c]
 cbv
 obtain⟨U,hh⟩:=ac hh
 obtain⟨J,hh⟩:=ac hh
 try dsimp only at J
 refine⟨Nb U,Mb J,?_⟩
 obtain⟨⟨u,v,w,y,⟨z,A⟩,⟨B,C⟩,b,D⟩,V,hh⟩:=af hh
 try dsimp only at hh
 refine⟨[iA u,iA v,iA w,tA (qInt y),tA (qGOcc z),tA (qGOcc A),tA (qGOcc B),tA (qGOcc C),tA (qGOcc b),iA D],Gb V,?_⟩
 cbv
 obtain⟨o2,W,X⟩:=af hh
 refine ay hC eok mixed (fun n (i:Int×Int)=>aX.l3 k (⟨u,v,w,y,⟨z,A⟩,⟨B,C⟩,b,D⟩:GNode) n i.1 i.2)
  (fun⟨s,K⟩=>(⟨[(1,iA p1),(6,iA s),(15,.ref (15,0) 1 0 (len (qGNode p0b))),(16,iA (cast (len (qGNode p0b)))),(17,iA p),(22,tA (qGOcc b)),(23,iA (cast (len (qGOcc b)))),(24,iA K),(1000000,.mptr (0,0) 1 0 0)],[((0,0),.box 1 [iA p0a,.ref (15,0) 1 0 (len (qGNode p0b)),iA p0c,iA p0d,bA p0e]),((15,0),.arr 1 10 (qGNode p0b))]⟩:St))
  (fun(L:Int)=>(⟨[(1,iA p1),(6,iA L),(15,.ref (15,0) 1 0 (len (qGNode p0b))),(16,iA (cast (len (qGNode p0b)))),(17,iA p),(1000000,.mptr (0,0) 1 0 0)],[((0,0),.box 1 [iA p0a,.ref (15,0) 1 0 (len (qGNode p0b)),iA p0c,iA p0d,bA p0e]),((15,0),.arr 1 10 (qGNode p0b))]⟩:St)) (fun x=>x) (.exit 2)
  (i0:=(_,_)) W (fun _=>rfl) ?_ ?_ ?_
 ·rintro⟨t,G⟩ e
  refine ai ?_
  cbv
  all_goals exact J2
 rintro L hx
 subst o2
 have hh:=X
 cbv
 ·refine S (_,_) _ hh fun⟨t,G⟩ e=>?_
  refine ai ?_
  cbv
  all_goals exact J2
 rintro n ⟨s,K⟩ N2 D2 hh M Y Ff
 try dsimp only at hh
 unfold aX.l3 at hh
 cbv
 refine bcs (fun d=>?_) (fun d=>?_)
 replace hh:=ifT hh d
 try rw[d]
 cbv
 obtain⟨Z,hh⟩:=ac hh
 obtain⟨⟨N,o,O⟩,ek,hh⟩:=af hh
 try dsimp only at hh
 refine⟨[iA N,iA o,tA (qInt O)],Nb Z,Gb ek,?_⟩
 cbv
 replace hh:=aG hh
 rcases hh with⟨F,hh⟩|⟨F,hh⟩
 have j:(lt o s)=true:=Tb F
 have g:=j;cbv at g;try rw[j]
 try rw[g]
 cbv
 ·refine M (_,_) _ hh fun⟨t,G⟩ e=>?_
  refine ai ?_
  cbv
  all_goals exact J2
 have j:(lt o s)=false:=Fb F
 have g:=j;cbv at g;try rw[j]
 try rw[g]
 cbv
 ·refine M (_,_) _ hh fun⟨t,G⟩ e=>?_
  refine ai ?_
  cbv
  all_goals exact J2
 replace hh:=ifF hh d
 try rw[d]
 cbv
 ·refine Y _ _ hh fun t e=>?_
  refine ai ?_
  cbv
  all_goals exact J1
 replace hh:=ifF hh c
 try rw[c]
 cbv
 ·refine T _ _ hh fun t e=>?_
  refine ai ?_
  cbv
  all_goals exact J1

theorem zG {p0:GOcc} {c0:Int} {r:Bool} (hh:mc.f p0 c0=some r):ak P 250 [.agg [iA p0.From,iA p0.To,tA (qInt p0.Ids)],.iptr [iA c0] 0] [hA,hA] (bA r):=by
 obtain⟨p0a,p0b,p0c⟩:=p0
 unfold mc.f at hh
 refine go (ts:=[(3,none)]) (rm:=[.own]) (pm:=[.skip,.skip]) Tryz.func250 ?_
 unhygienic intros
 cbv
 exact Eb

theorem ou {k:Nat} {g1:GOcc→Option Bool} {cp1_0:Int} (hg1:∀{y0:GOcc} {r:Bool},g1 y0=some r→ak P 250 [.agg [iA y0.From,iA y0.To,tA (qInt y0.Ids)],.iptr [iA cp1_0] 0] [hA,hA] (bA r)) {p0:List GOcc} {r:List GOcc} (hh:aW.f g1 k p0=some r):ak P 218 [tA (qGOcc p0),.clo 250 [.iptr [iA cp1_0] 0]] [hA,hA] (oA 3 (qGOcc r)):=by
 unfold aW.f at hh
 refine go (ts:=[(4,none)]) (rm:=[.own]) (pm:=[.skip,.skip]) Tryz.func218 ?_
 unhygienic intros
 cbv
 obtain⟨G,w,y⟩:=af hh
 refine ay hC eok mixed (fun n (i:(List GOcc)×Int)=>aW.l0 k g1 p0 n i.1 i.2)
  (fun⟨d,o⟩=>(⟨[(1,.clo 250 [.iptr [iA cp1_0] 0]),(5,.ref (5,50) 1 0 (len (qGOcc d))),(8,tA (qGOcc p0)),(9,iA (cast (len (qGOcc p0)))),(10,iA o)],[((5,50),.arr 1 3 (qGOcc d))]⟩:St))
  (fun(j:List GOcc)=>(⟨[(5,.ref (5,50) 1 0 (len (qGOcc j)))],[((5,50),.arr 1 3 (qGOcc j))]⟩:St)) (fun x=>x) (.exit 0)
  (i0:=(_,_)) w (fun _=>rfl) ?_ ?_ ?_
 ·rintro⟨s,z⟩ e
  refine aq [] ?_
  cbv
  all_goals exact J2
 rintro j hx
 subst G
 have hh:=y
 cbv
 exact Eb
 rintro n ⟨d,o⟩ J K hh p A H
 try dsimp only at hh
 unfold aW.l0 at hh
 cbv
 refine bcs (fun b=>?_) (fun b=>?_)
 replace hh:=ifT hh b
 try rw[b]
 cbv
 obtain⟨B,hh⟩:=ac hh
 obtain⟨⟨t,u,v⟩,C,hh⟩:=af hh
 try dsimp only at hh
 refine⟨[iA t,iA u,tA (qInt v)],Nb B,Gb C,?_⟩
 cbv
 obtain⟨I,D,hh⟩:=af hh
 refine ag hF (hg1 D) ?_
 cbv
 refine bcs (fun c=>?_) (fun c=>?_)
 replace hh:=ifT hh c
 try rw[c]
 cbv
 obtain⟨F,hh⟩:=ac hh
 refine⟨⟨Ob,Ab⟩,?_⟩
 refine⟨⟨Ob,Wb F⟩,?_⟩
 ·refine p (_,_) _ hh fun⟨s,z⟩ e=>?_
  refine aq [((5,50),(20,0))] ?_
  cbv
  all_goals exact J2
 replace hh:=ifF hh c
 try rw[c]
 cbv
 ·refine p (_,_) _ hh fun⟨s,z⟩ e=>?_
  refine ai ?_
  cbv
  all_goals exact J2
 replace hh:=ifF hh b
 try rw[b]
 cbv
 ·refine A _ _ hh fun s e=>?_
  refine ai ?_
  cbv
  all_goals exact J1

theorem eK {k:Nat} {p0:List GOcc} {p1:Int} {r:List GOcc} (hh:gP.f k p0 p1=some r):ak P 217 [tA (qGOcc p0),iA p1] [hA,hA] (oA 3 (qGOcc r)):=by
 unfold gP.f at hh
 refine go (ts:=[(4,none)]) (rm:=[.own]) (pm:=[.skip,.skip]) Tryz.func217 ?_
 unhygienic intros
 cbv
 obtain⟨c,b,hh⟩:=af hh
 refine ag hF (ou hQ (g1:=fun y0=>mc.f y0 p1) (fun h=>zG hQ h) b) ?_
 cbv
 exact Eb

theorem mi {p0:GOcc} {c0:Int} {r:Bool} (hh:dP.f p0 c0=some r):ak P 219 [.agg [iA p0.From,iA p0.To,tA (qInt p0.Ids)],.iptr [iA c0] 0] [hA,hA] (bA r):=by
 obtain⟨p0a,p0b,p0c⟩:=p0
 unfold dP.f at hh
 refine go (ts:=[(3,none)]) (rm:=[.own]) (pm:=[.skip,.skip]) Tryz.func219 ?_
 unhygienic intros
 cbv
 exact Eb

theorem gI {k:Nat} {g1:GOcc→Option Bool} {cp1_0:Int} (hg1:∀{y0:GOcc} {r:Bool},g1 y0=some r→ak P 219 [.agg [iA y0.From,iA y0.To,tA (qInt y0.Ids)],.iptr [iA cp1_0] 0] [hA,hA] (bA r)) {p0:List GOcc} {r:List GOcc} (hh:aW.f g1 k p0=some r):ak P 218 [tA (qGOcc p0),.clo 219 [.iptr [iA cp1_0] 0]] [hA,hA] (oA 3 (qGOcc r)):=by
 unfold aW.f at hh
 refine go (ts:=[(4,none)]) (rm:=[.own]) (pm:=[.skip,.skip]) Tryz.func218 ?_
 unhygienic intros
 cbv
 obtain⟨G,w,y⟩:=af hh
 refine ay hC eok mixed (fun n (i:(List GOcc)×Int)=>aW.l0 k g1 p0 n i.1 i.2)
  (fun⟨d,o⟩=>(⟨[(1,.clo 219 [.iptr [iA cp1_0] 0]),(5,.ref (5,50) 1 0 (len (qGOcc d))),(8,tA (qGOcc p0)),(9,iA (cast (len (qGOcc p0)))),(10,iA o)],[((5,50),.arr 1 3 (qGOcc d))]⟩:St))
  (fun(j:List GOcc)=>(⟨[(5,.ref (5,50) 1 0 (len (qGOcc j)))],[((5,50),.arr 1 3 (qGOcc j))]⟩:St)) (fun x=>x) (.exit 0)
  (i0:=(_,_)) w (fun _=>rfl) ?_ ?_ ?_
 ·rintro⟨s,z⟩ e
  refine aq [] ?_
  cbv
  all_goals exact J2
 rintro j hx
 subst G
 have hh:=y
 cbv
 exact Eb
 rintro n ⟨d,o⟩ J K hh p A H
 try dsimp only at hh
 unfold aW.l0 at hh
 cbv
 refine bcs (fun b=>?_) (fun b=>?_)
 replace hh:=ifT hh b
 try rw[b]
 cbv
 obtain⟨B,hh⟩:=ac hh
 obtain⟨⟨t,u,v⟩,C,hh⟩:=af hh
 try dsimp only at hh
 refine⟨[iA t,iA u,tA (qInt v)],Nb B,Gb C,?_⟩
 cbv
 obtain⟨I,D,hh⟩:=af hh
 refine ag hF (hg1 D) ?_
 cbv
 refine bcs (fun c=>?_) (fun c=>?_)
 replace hh:=ifT hh c
 try rw[c]
 cbv
 obtain⟨F,hh⟩:=ac hh
 refine⟨⟨Ob,Ab⟩,?_⟩
 refine⟨⟨Ob,Wb F⟩,?_⟩
 ·refine p (_,_) _ hh fun⟨s,z⟩ e=>?_
  refine aq [((5,50),(20,0))] ?_
  cbv
  all_goals exact J2
 replace hh:=ifF hh c
 try rw[c]
 cbv
 ·refine p (_,_) _ hh fun⟨s,z⟩ e=>?_
  refine ai ?_
  cbv
  all_goals exact J2
 replace hh:=ifF hh b
 try rw[b]
 cbv
 ·refine A _ _ hh fun s e=>?_
  refine ai ?_
  cbv
  all_goals exact J1

theorem sK {p0:Int} {r:Bool} (hh:mf.f p0=some r):ak P 220 [iA p0] [hA] (bA r):=by
 unfold mf.f at hh
 refine go (ts:=[(2,none)]) (rm:=[.own]) (pm:=[.skip]) Tryz.func220 ?_
 unhygienic intros
 cbv
 exact Eb

theorem wR {p0:Int} {p1:Int} {r:Int} (hh:jE.f p0 p1=some r):ak P 186 [iA p0,iA p1] [hA,hA] (iA r):=by
 unfold jE.f at hh
 refine go (ts:=[(4,none)]) (rm:=[.own]) (pm:=[.skip,.skip]) Tryz.func186 ?_
 unhygienic intros
 cbv
 obtain⟨t,p,hh⟩:=af hh
 refine ag hF (sK hQ p) ?_
 cbv
 obtain⟨u,s,hh⟩:=af hh
 refine ag hF (sK hQ s) ?_
 cbv
 refine bcs (fun o=>?_) (fun o=>?_)
 replace hh:=ifT hh o
 try rw[o]
 cbv
 refine bcs (fun b=>?_) (fun b=>?_)
 replace hh:=ifT hh b
 try rw[b]
 cbv
 exact Eb
 replace hh:=ifF hh b
 try rw[b]
 cbv
 exact Eb
 replace hh:=ifF hh o
 try rw[o]
 cbv
 refine bcs (fun c=>?_) (fun c=>?_)
 replace hh:=ifT hh c
 try rw[c]
 cbv
 exact Eb
 replace hh:=ifF hh c
 try rw[c]
 cbv
 refine bcs (fun d=>?_) (fun d=>?_)
 replace hh:=ifT hh d
 try rw[d]
 cbv
 exact Eb
 replace hh:=ifF hh d
 try rw[d]
 cbv
 refine bcs (fun j=>?_) (fun j=>?_)
 replace hh:=ifT hh j
 try rw[j]
 cbv
 exact Eb
 replace hh:=ifF hh j
 try rw[j]
 cbv
 exact Eb

theorem tt {k:Nat} {p0:List Int} {p1:List Int} {r:Int} (hh:cE.f k p0 p1=some r):ak P 133 [tA (qInt p0),tA (qInt p1)] [hA,hA] (iA r):=by
 unfold cE.f at hh
 refine go (ts:=[(4,none)]) (rm:=[.own]) (pm:=[.skip,.skip]) Tryz.func133 ?_
 unhygienic intros
 cbv
 obtain⟨I,w,p⟩:=af hh
 refine ay hC eok mixed (cE.l0 k p0 p1)
  (fun o=>(⟨[(0,tA (qInt p0)),(1,tA (qInt p1)),(9,tA (qInt p0)),(10,iA (cast (len (qInt p0)))),(11,iA o)],[]⟩:St))
  (fun(_:Unit)=>(⟨[(0,tA (qInt p0)),(1,tA (qInt p1))],[]⟩:St)) .ok (.exit 0)
  (i0:=_) w (fun _=>rfl) ?_ ?_ ?_
 ·rintro J e
  refine ai ?_
  cbv
  all_goals exact J1
 rintro _ hx
 subst I
 have hh:=p
 cbv
 refine bcs (fun b=>?_) (fun b=>?_)
 replace hh:=ifT hh b
 try rw[b]
 cbv
 exact Eb
 replace hh:=ifF hh b
 try rw[b]
 cbv
 exact Eb
 rintro n o K L hh y z u
 unfold cE.l0 at hh
 cbv
 refine bcs (fun c=>?_) (fun c=>?_)
 replace hh:=ifT hh c
 try rw[c]
 cbv
 obtain⟨A,hh⟩:=ac hh
 obtain⟨B,C,hh⟩:=af hh
 refine⟨[iA B],Nb A,Gb C,?_⟩
 cbv
 replace hh:=aG hh
 rcases hh with⟨s,hh⟩|⟨s,hh⟩
 have d:(lt o (cast (len (qInt p1))))=true:=Tb s
 have g:=d;cbv at g;try rw[d]
 try rw[g]
 cbv
 obtain⟨D,hh⟩:=ac hh
 obtain⟨F,G,hh⟩:=af hh
 refine⟨[iA F],Nb D,Gb G,?_⟩
 cbv
 obtain⟨v,H,hh⟩:=af hh
 refine ag hF (wR hQ H) ?_
 cbv
 replace hh:=aG hh
 rcases hh with⟨t,hh⟩|⟨t,hh⟩
 have j:(eq v 0)=true:=Tb t
 have g:=j;cbv at g;try rw[j]
 try rw[g]
 cbv
 ·refine y _ _ hh fun J e=>?_
  refine ai ?_
  cbv
  all_goals exact J1
 have j:(eq v 0)=false:=Fb t
 have g:=j;cbv at g;try rw[j]
 try rw[g]
 cbv
 cases hh
 have hh:some _=some _:=p
 refine u _ _ ?_
 cbv
 exact Eb
 have d:(lt o (cast (len (qInt p1))))=false:=Fb s
 have g:=d;cbv at g;try rw[d]
 try rw[g]
 cbv
 cases hh
 have hh:some _=some _:=p
 refine u _ _ ?_
 cbv
 exact Eb
 replace hh:=ifF hh c
 try rw[c]
 cbv
 ·refine z () _ hh fun _ e=>?_
  refine ai ?_
  cbv
  all_goals exact J0

theorem sw {p0:Bool} {r:Int} (hh:me.f p0=some r):ak P 132 [bA p0] [hA] (iA r):=by
 unfold me.f at hh
 refine go (ts:=[(2,none)]) (rm:=[.own]) (pm:=[.skip]) Tryz.func132 ?_
 unhygienic intros
 cbv
 refine bcs (fun b=>?_) (fun b=>?_)
 replace hh:=ifT hh b
 try rw[b]
 cbv
 exact Eb
 replace hh:=ifF hh b
 try rw[b]
 cbv
 exact Eb

theorem ju {k:Nat} {p0:GOcc} {p1:GOcc} {r:Int} (hh:cU.f k p0 p1=some r):ak P 70 [.agg [iA p0.From,iA p0.To,tA (qInt p0.Ids)],.agg [iA p1.From,iA p1.To,tA (qInt p1.Ids)]] [hA,hA] (iA r):=by
 obtain⟨p0a,p0b,p0c⟩:=p0
 obtain⟨p1a,p1b,p1c⟩:=p1
 unfold cU.f at hh
 refine go (ts:=[(4,none)]) (rm:=[.own]) (pm:=[.skip,.skip]) Tryz.func70 ?_
 unhygienic intros
 cbv
 replace hh:=aG hh
 rcases hh with⟨d,hh⟩|⟨d,hh⟩
 have b:(eq p0b p1b)=true:=Tb d
 have g:=b;cbv at g;try rw[b]
 try rw[g]
 cbv
 replace hh:=aG hh
 rcases hh with⟨j,hh⟩|⟨j,hh⟩
 have c:(eq p0a p1a)=true:=Tb j
 have g:=c;cbv at g;try rw[c]
 try rw[g]
 cbv
 obtain⟨u,p,hh⟩:=af hh
 refine ag hF (tt hQ p) ?_
 cbv
 exact Eb
 have c:(eq p0a p1a)=false:=Fb j
 have g:=c;cbv at g;try rw[c]
 try rw[g]
 cbv
 obtain⟨v,s,hh⟩:=af hh
 refine ag hF (sw hQ s) ?_
 cbv
 exact Eb
 have b:(eq p0b p1b)=false:=Fb d
 have g:=b;cbv at g;try rw[b]
 try rw[g]
 cbv
 obtain⟨t,o,hh⟩:=af hh
 refine ag hF (sw hQ o) ?_
 cbv
 exact Eb

theorem eQ {k:Nat} {g2:GOcc→GOcc→Option Int} (hg2:∀{y0:GOcc} {y1:GOcc} {r:Int},g2 y0 y1=some r→ak P 70 [.agg [iA y0.From,iA y0.To,tA (qInt y0.Ids)],.agg [iA y1.From,iA y1.To,tA (qInt y1.Ids)]] [hA,hA] (iA r)) {p0:List GOcc} {p1:GOcc} {r:Int×Bool} (hh:aM.f g2 k p0 p1=some r):ak P 182 [tA (qGOcc p0),.agg [iA p1.From,iA p1.To,tA (qInt p1.Ids)],.clo 70 []] [hA,hA,hA] (.tup [iA r.1,bA r.2]):=by
 obtain⟨p1a,p1b,p1c⟩:=p1
 unfold aM.f at hh
 refine go (ts:=[(6,none),(7,none)]) (rm:=[.own,.own]) (pm:=[.skip,.skip,.skip]) Tryz.func182 ?_
 unhygienic intros
 cbv
 obtain⟨N,B,C⟩:=af hh
 refine ay hC eok mixed (fun n (i:Int×Int)=>aM.l0 k g2 p0 (⟨p1a,p1b,p1c⟩:GOcc) n i.1 i.2)
  (fun⟨j,o⟩=>(⟨[(0,tA (qGOcc p0)),(2,.clo 70 []),(4,.mptr (4,0) 1 0 0),(8,iA (cast (len (qGOcc p0)))),(9,iA j),(10,iA o)],[((4,0),.box 1 [iA p1a,iA p1b,tA (qInt p1c)])]⟩:St))
  (fun(p:Int)=>(⟨[(0,tA (qGOcc p0)),(2,.clo 70 []),(4,.mptr (4,0) 1 0 0),(8,iA (cast (len (qGOcc p0)))),(9,iA p)],[((4,0),.box 1 [iA p1a,iA p1b,tA (qInt p1c)])]⟩:St)) (fun x=>x) (.exit 0)
  (i0:=(_,_)) B (fun _=>rfl) ?_ ?_ ?_
 ·rintro⟨t,D⟩ e
  refine ai ?_
  cbv
  all_goals exact J2
 rintro p hx
 subst N
 have hh:=C
 cbv
 refine bcs (fun b=>?_) (fun b=>?_)
 replace hh:=ifT hh b
 try rw[b]
 cbv
 obtain⟨F,hh⟩:=ac hh
 obtain⟨⟨u,v,w⟩,G,hh⟩:=af hh
 try dsimp only at hh
 refine⟨[iA u,iA v,tA (qInt w)],Nb F,Gb G,?_⟩
 cbv
 obtain⟨O,H,hh⟩:=af hh
 refine ag hF (hg2 H) ?_
 cbv
 exact Eb
 replace hh:=ifF hh b
 try rw[b]
 cbv
 exact Eb
 rintro n ⟨j,o⟩ S T hh s I Q
 try dsimp only at hh
 unfold aM.l0 at hh
 cbv
 refine bcs (fun c=>?_) (fun c=>?_)
 replace hh:=ifT hh c
 try rw[c]
 cbv
 obtain⟨J,hh⟩:=ac hh
 refine⟨Nb J,?_⟩
 obtain⟨K,hh⟩:=ac hh
 obtain⟨⟨y,z,A⟩,L,hh⟩:=af hh
 try dsimp only at hh
 refine⟨[iA y,iA z,tA (qInt A)],Nb K,Gb L,?_⟩
 cbv
 obtain⟨R,M,hh⟩:=af hh
 refine ag hF (hg2 M) ?_
 cbv
 refine bcs (fun d=>?_) (fun d=>?_)
 replace hh:=ifT hh d
 try rw[d]
 cbv
 ·refine s (_,_) _ hh fun⟨t,D⟩ e=>?_
  refine ai ?_
  cbv
  all_goals exact J2
 replace hh:=ifF hh d
 try rw[d]
 cbv
 ·refine s (_,_) _ hh fun⟨t,D⟩ e=>?_
  refine ai ?_
  cbv
  all_goals exact J2
 replace hh:=ifF hh c
 try rw[c]
 cbv
 ·refine I _ _ hh fun t e=>?_
  refine ai ?_
  cbv
  all_goals exact J1

theorem vR {p0:List GOcc} {r:List GOcc} (hh:kS.f p0=some r):ak P 184 [tA (qGOcc p0)] [hA] (oA 3 (qGOcc r)):=by
 unfold kS.f at hh
 refine go (ts:=[(2,none)]) (rm:=[.own]) (pm:=[.skip]) Tryz.func184 ?_
 unhygienic intros
 cbv
 obtain⟨c,hh⟩:=ac hh
 intro b hb
 cases b
 · cbv
   refine⟨⟨Ab,Ab⟩,?_⟩
   refine⟨⟨Ob,Wb c⟩,?_⟩
   exact Eb
 · have e:p0=[]:=by cases hC;cases hQ;simpa using hb rfl
   cbv
   refine⟨3,?_⟩
   cbv
   subst e
   exact Eb


theorem tS {p0:List GOcc} {p1:Int} {p2:List GOcc} {r:List GOcc} (hh:iy.f p0 p1 p2=some r):ak P 183 [oA 3 (qGOcc p0),iA p1,oA 3 (qGOcc p2)] [hA,hA,hA] (oA 3 (qGOcc r)):=by
  cases hQ
  exact un hh


theorem jA {k:Nat} {p0:List GOcc} {p1:GOcc} {r:List GOcc} (hh:eB.f k p0 p1=some r):ak P 128 [tA (qGOcc p0),.agg [iA p1.From,iA p1.To,tA (qInt p1.Ids)]] [hA,hA] (tA (qGOcc r)):=by
 obtain⟨p1a,p1b,p1c⟩:=p1
 unfold eB.f at hh
 refine go (ts:=[(4,none)]) (rm:=[.val]) (pm:=[.skip,.skip]) Tryz.func128 ?_
 unhygienic intros
 cbv
 obtain⟨⟨c,d⟩,j,hh⟩:=af hh
 try dsimp only at hh
 refine ag hF (eQ hQ (g2:=fun y0 y1=>cU.f k y0 y1) (fun h=>ju hQ h) j) ?_
 cbv
 refine bcs (fun b=>?_) (fun b=>?_)
 replace hh:=ifT hh b
 try rw[b]
 cbv
 exact Eb
 replace hh:=ifF hh b
 try rw[b]
 cbv
 obtain⟨t,o,hh⟩:=af hh
 refine ag hF (vR hQ o) ?_
 cbv
 obtain⟨s,p,hh⟩:=af hh
 refine⟨Ob,?_⟩
 refine ag hF (tS hQ p) ?_
 cbv
 exact Eb

theorem bL {k:Nat} {p0:List GOcc} {p1:List GOcc} {r:List GOcc} (hh:aO.f k p0 p1=some r):ak P 61 [tA (qGOcc p0),tA (qGOcc p1)] [hA,hA] (tA (qGOcc r)):=by
 unfold aO.f at hh
 refine go (ts:=[(4,none)]) (rm:=[.val]) (pm:=[.skip,.skip]) Tryz.func61 ?_
 unhygienic intros
 cbv
 obtain⟨C,s,t⟩:=af hh
 refine ay hC eok mixed (fun n (i:(List GOcc)×Int)=>aO.l0 k p1 n i.1 i.2)
  (fun⟨u,c⟩=>(⟨[(0,tA (qGOcc u)),(7,tA (qGOcc p1)),(8,iA (cast (len (qGOcc p1)))),(9,iA c)],[]⟩:St))
  (fun(d:List GOcc)=>(⟨[(0,tA (qGOcc d))],[]⟩:St)) (fun x=>x) (.exit 0)
  (i0:=(_,_)) s (fun _=>rfl) ?_ ?_ ?_
 ·rintro⟨v,D⟩ e
  refine ai ?_
  cbv
  all_goals exact J2
 rintro d hx
 subst C
 have hh:=t
 cbv
 exact Eb
 rintro n ⟨u,c⟩ H I hh w y F
 try dsimp only at hh
 unfold aO.l0 at hh
 cbv
 refine bcs (fun b=>?_) (fun b=>?_)
 replace hh:=ifT hh b
 try rw[b]
 cbv
 obtain⟨z,hh⟩:=ac hh
 obtain⟨⟨j,o,p⟩,A,hh⟩:=af hh
 try dsimp only at hh
 refine⟨[iA j,iA o,tA (qInt p)],Nb z,Gb A,?_⟩
 cbv
 obtain⟨G,B,hh⟩:=af hh
 refine ag hF (jA hQ B) ?_
 cbv
 ·refine w (_,_) _ hh fun⟨v,D⟩ e=>?_
  refine ai ?_
  cbv
  all_goals exact J2
 replace hh:=ifF hh b
 try rw[b]
 cbv
 ·refine y _ _ hh fun v e=>?_
  refine ai ?_
  cbv
  all_goals exact J1

theorem w7 {p0:List Int} {p1:Int} {r:List Int} (hh:jM.f p0 p1=some r):ak P 288 [.lit (.slice none 0 0),iA p1] [hA,hA] (oA 1 (qInt r)):=by
  cases hQ
  exact xw hh


theorem uR {k:Nat} {p0:List (List Int)} {r:List Int} (hh:ba.f k p0=some r):ak P 271 [tA (qLInt p0)] [hA] (oA 1 (qInt r)):=by
 unfold ba.f at hh
 refine go (ts:=[(2,none)]) (rm:=[.own]) (pm:=[.skip]) Tryz.func271 ?_
 unhygienic intros
 cbv
 obtain⟨z,j,o⟩:=af hh
 refine ay hC eok mixed (fun n (i:Int×Int)=>ba.l0 k p0 n i.1 i.2)
  (fun⟨B,C⟩=>(⟨[(0,tA (qLInt p0)),(3,iA B),(9,tA (qLInt p0)),(10,iA (cast (len (qLInt p0)))),(11,iA C)],[]⟩:St))
  (fun(w:Int)=>(⟨[(0,tA (qLInt p0)),(3,iA w)],[]⟩:St)) (fun x=>x) (.exit 0)
  (i0:=(_,_)) j (fun _=>rfl) ?_ ?_ ?_
 ·rintro⟨p,A⟩ e
  refine ai ?_
  cbv
  all_goals exact J2
 rintro w hx
 subst z
 have hh:=o
 cbv
 obtain⟨Q,D,hh⟩:=af hh
 refine ag hF (w7 hQ D) ?_
 cbv
 obtain⟨z,j,o⟩:=af hh
 refine ay hC eok mixed (fun n (i:(List Int)×Int)=>ba.l1 k p0 n i.1 i.2)
  (fun⟨s,y⟩=>(⟨[(6,.ref (24,0) 1 0 (len (qInt s))),(25,tA (qLInt p0)),(26,iA (cast (len (qLInt p0)))),(27,iA y)],[((24,0),.arr 1 1 (qInt s))]⟩:St))
  (fun(t:List Int)=>(⟨[(6,.ref (24,0) 1 0 (len (qInt t)))],[((24,0),.arr 1 1 (qInt t))]⟩:St)) (fun x=>x) (.exit 2)
  (i0:=(_,_)) j (fun _=>rfl) ?_ ?_ ?_
 ·rintro⟨p,A⟩ e
  refine ai ?_
  cbv
  all_goals exact J2
 rintro t hx
 subst z
 have hh:=o
 cbv
 exact Eb
 rintro n ⟨s,y⟩ N O hh u v F
 try dsimp only at hh
 unfold ba.l1 at hh
 cbv
 refine bcs (fun b=>?_) (fun b=>?_)
 replace hh:=ifT hh b
 try rw[b]
 cbv
 obtain⟨G,hh⟩:=ac hh
 obtain⟨H,I,hh⟩:=af hh
 refine⟨[tA (qInt H)],Nb G,Gb I,?_⟩
 cbv
 obtain⟨J,hh⟩:=ac hh
 refine⟨⟨Ab,Ab⟩,?_⟩
 refine⟨⟨Ob,Wb J⟩,?_⟩
 ·refine u (_,_) _ hh fun⟨p,A⟩ e=>?_
  refine aq [((24,0),(33,0))] ?_
  cbv
  all_goals exact J2
 replace hh:=ifF hh b
 try rw[b]
 cbv
 ·refine v _ _ hh fun p e=>?_
  refine ai ?_
  cbv
  all_goals exact J1
 rintro n ⟨B,C⟩ N O hh u v F
 try dsimp only at hh
 unfold ba.l0 at hh
 cbv
 refine bcs (fun c=>?_) (fun c=>?_)
 replace hh:=ifT hh c
 try rw[c]
 cbv
 obtain⟨K,hh⟩:=ac hh
 obtain⟨L,M,hh⟩:=af hh
 refine⟨[tA (qInt L)],Nb K,Gb M,?_⟩
 cbv
 refine bcs (fun d=>?_) (fun d=>?_)
 replace hh:=ifT hh d
 try rw[d]
 cbv
 cases hh
 replace hh:=ifF hh d
 try rw[d]
 cbv
 ·refine u (_,_) _ hh fun⟨p,A⟩ e=>?_
  refine ai ?_
  cbv
  all_goals exact J2
 replace hh:=ifF hh c
 try rw[c]
 cbv
 ·refine v _ _ hh fun p e=>?_
  refine ai ?_
  cbv
  all_goals exact J1
theorem ql {k:Nat} {p0:List (List Int)} {r:List Int} (hh:ba.f k p0=some r):ak P 271 [oA 1 (qLInt p0)] [oA 1 (qLInt p0)] (oA 1 (qInt r)):=by
  cases hQ;exact(uR .mk hh).lend (tP _) (.lend (congrArg A.tree (wE _).symm) .nil)

theorem qj {p0:List Int} {r:List Int} (hh:gG.f p0=some r):ak P 252 [oA 1 (qInt p0)] [oA 1 (qInt r)] (.tup []):=by
  cases hQ
  exact wV hh


theorem gh {p0:List Int} {r:List Int} (hh:dn.f p0=some r):ak P 253 [oA 1 (qInt p0)] [hA] (tA (qInt r)):=by
  cases hQ
  exact tC hh


theorem lF {k:Nat} {p0:GOcc} {p1:GOcc} {r:GOcc} (hh:fS.f k p0 p1=some r):ak P 254 [.agg [iA p0.From,iA p0.To,tA (qInt p0.Ids)],.agg [iA p1.From,iA p1.To,tA (qInt p1.Ids)]] [hA,hA] (.agg [iA r.From,iA r.To,oA 1 (qInt r.Ids)]):=by
 obtain⟨p0a,p0b,p0c⟩:=p0
 obtain⟨p1a,p1b,p1c⟩:=p1
 unfold fS.f at hh
 refine go (ts:=[(4,some 67)]) (rm:=[.own]) (pm:=[.skip,.skip]) Tryz.func254 ?_
 unhygienic intros
 cbv
 obtain⟨J,B,hh⟩:=af hh
 refine⟨Ob,?_⟩
 refine ag hF (ql hQ B) ?_
 cbv
 obtain⟨K,C,hh⟩:=af hh
 obtain⟨D,hh⟩:=ac hh
 refine ag hF (qj hQ C) ?_
 cbv
 replace hh:=aG hh
 rcases hh with⟨o,hh⟩|⟨o,hh⟩
 have d:(lt p1a p0a)=true:=Tb o
 have g:=d;cbv at g;try rw[d]
 try rw[g]
 cbv
 replace hh:=aG hh
 rcases hh with⟨p,hh⟩|⟨p,hh⟩
 have b:(lt p0b p1b)=true:=Tb p
 have g:=b;cbv at g;try rw[b]
 try rw[g]
 cbv
 obtain⟨F,s,hh⟩:=af hh
 refine⟨Ob,?_⟩
 refine ag hF (gh hQ s) ?_
 cbv
 obtain⟨t,hh⟩:=ac hh
 refine⟨⟨Ab,Ab⟩,?_⟩
 refine⟨Wb t,?_⟩
 exact Eb
 have b:(lt p0b p1b)=false:=Fb p
 have g:=b;cbv at g;try rw[b]
 try rw[g]
 cbv
 obtain⟨G,u,hh⟩:=af hh
 refine⟨Ob,?_⟩
 refine ag hF (gh hQ u) ?_
 cbv
 obtain⟨v,hh⟩:=ac hh
 refine⟨⟨Ab,Ab⟩,?_⟩
 refine⟨Wb v,?_⟩
 exact Eb
 have d:(lt p1a p0a)=false:=Fb o
 have g:=d;cbv at g;try rw[d]
 try rw[g]
 cbv
 replace hh:=aG hh
 rcases hh with⟨j,hh⟩|⟨j,hh⟩
 have c:(lt p0b p1b)=true:=Tb j
 have g:=c;cbv at g;try rw[c]
 try rw[g]
 cbv
 obtain⟨H,w,hh⟩:=af hh
 refine⟨Ob,?_⟩
 refine ag hF (gh hQ w) ?_
 cbv
 obtain⟨y,hh⟩:=ac hh
 refine⟨⟨Ab,Ab⟩,?_⟩
 refine⟨Wb y,?_⟩
 exact Eb
 have c:(lt p0b p1b)=false:=Fb j
 have g:=c;cbv at g;try rw[c]
 try rw[g]
 cbv
 obtain⟨I,z,hh⟩:=af hh
 refine⟨Ob,?_⟩
 refine ag hF (gh hQ z) ?_
 cbv
 obtain⟨A,hh⟩:=ac hh
 refine⟨⟨Ab,Ab⟩,?_⟩
 refine⟨Wb A,?_⟩
 exact Eb

theorem gR {k:Nat} {p0:Int} {p1:GOcc} {p2:List GOcc} {r:(List GOcc)×(List GOcc)} (hh:aK.f k p0 p1 p2=some r):ak P 233 [iA p0,.agg [iA p1.From,iA p1.To,tA (qInt p1.Ids)],tA (qGOcc p2)] [hA,hA,hA] (.tup [tA (qGOcc r.1),tA (qGOcc r.2)]):=by
 obtain⟨p1a,p1b,p1c⟩:=p1
 unfold aK.f at hh
 refine go (ts:=[(6,none),(7,none)]) (rm:=[.val,.val]) (pm:=[.skip,.skip,.skip]) Tryz.func233 ?_
 unhygienic intros
 cbv
 refine bcs (fun p=>?_) (fun p=>?_)
 replace hh:=ifT hh p
 try rw[p]
 cbv
 exact Eb
 replace hh:=ifF hh p
 try rw[p]
 cbv
 refine bcs (fun s=>?_) (fun s=>?_)
 replace hh:=ifT hh s
 try rw[s]
 cbv
 obtain⟨h5,hh⟩:=ac hh
 obtain⟨⟨Z,ek,EJ⟩,h7,hh⟩:=af hh
 try dsimp only at hh
 refine⟨[iA Z,iA ek,tA (qInt EJ)],Nb h5,Gb h7,?_⟩
 cbv
 obtain⟨⟨F7,F8,F9⟩,h8,hh⟩:=af hh
 try dsimp only at hh
 have fc:=lF hQ h8
 try dsimp only at fc
 refine ag hF fc ?_
 cbv
 exact Eb
 replace hh:=ifF hh s
 try rw[s]
 cbv
 refine bcs (fun b=>?_) (fun b=>?_)
 replace hh:=ifT hh b
 try rw[b]
 cbv
 obtain⟨E2,hh⟩:=ac hh
 obtain⟨⟨L,M,N⟩,E3,hh⟩:=af hh
 try dsimp only at hh
 refine⟨[iA L,iA M,tA (qInt N)],Nb E2,Gb E3,?_⟩
 cbv
 obtain⟨⟨FJ,FM,FN⟩,Ff,hh⟩:=af hh
 try dsimp only at hh
 have fc:=lF hQ Ff
 try dsimp only at fc
 refine ag hF fc ?_
 cbv
 obtain⟨Fj,hh⟩:=ac hh
 obtain⟨Fk,hh⟩:=ac hh
 obtain⟨Fm,hh⟩:=ac hh
 refine⟨⟨Nb Fj,Nb Fk,Nb Fm,Ab⟩,?_⟩
 exact Eb
 replace hh:=ifF hh b
 try rw[b]
 cbv
 refine bcs (fun c=>?_) (fun c=>?_)
 replace hh:=ifT hh c
 try rw[c]
 cbv
 obtain⟨O,t,u⟩:=af hh
 refine ay hC eok mixed (fun n (i:Int×Int×(List Int)×Int)=>aK.l0 k p2 n i.1 i.2.1 i.2.2.1 i.2.2.2)
  (fun⟨A,B,C,D⟩=>(⟨[(2,tA (qGOcc p2)),(4,.mptr (4,0) 1 0 0),(39,tA (qGOcc p2)),(40,iA (cast (len (qGOcc p2)))),(41,iA D)],[((4,0),.box 1 [iA A,iA B,tA (qInt C)])]⟩:St))
  (fun(⟨F,G,H⟩:Int×Int×(List Int))=>(⟨[(2,tA (qGOcc p2)),(4,.mptr (4,0) 1 0 0)],[((4,0),.box 1 [iA F,iA G,tA (qInt H)])]⟩:St)) (fun x=>x) (.exit 1)
  (i0:=(_,_,_,_)) t (fun _=>rfl) ?_ ?_ ?_
 ·rintro⟨v,z,t2,t3⟩ e
  refine ai ?_
  cbv
  all_goals exact J4
 rintro⟨F,G,H⟩ hx
 subst O
 have hh:=u
 cbv
 exact Eb
 rintro n ⟨A,B,C,D⟩ N1 D1 hh w y Fp
 try dsimp only at hh
 unfold aK.l0 at hh
 cbv
 refine bcs (fun d=>?_) (fun d=>?_)
 replace hh:=ifT hh d
 try rw[d]
 cbv
 obtain⟨Fq,hh⟩:=ac hh
 obtain⟨⟨Q,R,S⟩,Fr,hh⟩:=af hh
 try dsimp only at hh
 refine⟨[iA Q,iA R,tA (qInt S)],Nb Fq,Gb Fr,?_⟩
 cbv
 obtain⟨⟨T,U,V⟩,Fu,hh⟩:=af hh
 try dsimp only at hh
 have fc:=ak.frz (r':=.agg [iA T,iA U,tA (qInt V)]) (lF hQ Fu) (by cases hQ;simp)
 try dsimp only at fc
 refine ag hF fc ?_
 cbv
 ·refine w (_,_,_,_) _ hh fun⟨v,z,t2,t3⟩ e=>?_
  refine ai ?_
  cbv
  all_goals exact J4
 replace hh:=ifF hh d
 try rw[d]
 cbv
 ·refine y (_,_,_) _ hh fun⟨v,z,t2⟩ e=>?_
  refine ai ?_
  cbv
  all_goals exact J3
 replace hh:=ifF hh c
 try rw[c]
 cbv
 obtain⟨O,t,u⟩:=af hh
 refine ay hC eok mixed (fun n (i:(List GOcc)×Int)=>aK.l1 k (⟨p1a,p1b,p1c⟩:GOcc) p2 n i.1 i.2)
  (fun⟨I,J⟩=>(⟨[(0,iA p0),(2,tA (qGOcc p2)),(4,.mptr (4,0) 1 0 0),(6,tA (qGOcc I)),(7,.lit (.slice none 0 0)),(52,tA (qGOcc p2)),(53,iA (cast (len (qGOcc p2)))),(54,iA J)],[((4,0),.box 1 [iA p1a,iA p1b,tA (qInt p1c)])]⟩:St))
  (fun(K:List GOcc)=>(⟨[(0,iA p0),(2,tA (qGOcc p2)),(6,tA (qGOcc K)),(7,.lit (.slice none 0 0))],[]⟩:St)) (fun x=>x) (.exit 3)
  (i0:=(_,_)) t (fun _=>rfl) ?_ ?_ ?_
 ·rintro⟨v,z⟩ e
  refine ai ?_
  cbv
  all_goals exact J2
 rintro K hx
 subst O
 have hh:=u
 cbv
 refine bcs (fun j=>?_) (fun j=>?_)
 replace hh:=ifT hh j
 try rw[j]
 cbv
 exact Eb
 replace hh:=ifF hh j
 try rw[j]
 cbv
 exact Eb
 rintro n ⟨I,J⟩ N1 D1 hh w y Fp
 try dsimp only at hh
 unfold aK.l1 at hh
 cbv
 refine bcs (fun o=>?_) (fun o=>?_)
 replace hh:=ifT hh o
 try rw[o]
 cbv
 obtain⟨Fx,hh⟩:=ac hh
 obtain⟨⟨W,X,Y⟩,Fz,hh⟩:=af hh
 try dsimp only at hh
 refine⟨[iA W,iA X,tA (qInt Y)],Nb Fx,Gb Fz,?_⟩
 cbv
 obtain⟨⟨F4,F5,F6⟩,FA,hh⟩:=af hh
 try dsimp only at hh
 have fc:=lF hQ FA
 try dsimp only at fc
 refine ag hF fc ?_
 cbv
 obtain⟨Ga,FB,hh⟩:=af hh
 refine⟨Ob,?_⟩
 refine ag hF (jA hQ FB) ?_
 cbv
 ·refine w (_,_) _ hh fun⟨v,z⟩ e=>?_
  refine ai ?_
  cbv
  all_goals exact J2
 replace hh:=ifF hh o
 try rw[o]
 cbv
 ·refine y _ _ hh fun v e=>?_
  refine ai ?_
  cbv
  all_goals exact J1

end Go.Proofs.YtlbnmldopjadoaaGreat
