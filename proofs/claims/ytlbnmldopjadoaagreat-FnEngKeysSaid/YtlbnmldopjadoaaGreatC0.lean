/- The functions of this program do what the plain ones do. -/
import Derived.Test.YtlbnmldopjadoaaGreatN
import Derived.Test.YtlbnmldopjadoaaGreatVE
import Derived.Test.YtlbnmldopjadoaaGreatX
namespace Go.Proofs.YtlbnmldopjadoaaGreat
open Go Go.Vm
set_option linter.unusedVariables false
set_option maxHeartbeats 4000000
set_option maxRecDepth 4000
noncomputable abbrev P:Program:=Tryz.prog
variable {qIu8:Vm.RW Int} {qGEx:Vm.RW GEx} {qGRule:Vm.RW GRule} {qStr:Vm.RW ByteArray} {qInt:Vm.RW Int} {qGExO:Vm.RW GEx} {qGOcc:Vm.RW GOcc} {qGNode:Vm.RW GNode} {qGNodeS:Vm.RW GNode} {qGGraphS2:Vm.RW GGraph} {qGGraph:Vm.RW GGraph} {qGEv:Vm.RW GEv} {qGFire:Vm.RW GFire} {qGOccO:Vm.RW GOcc} {qLGOcc:Vm.RW (List GOcc)} {qBool:Vm.RW Bool} {qGGraphS:Vm.RW GGraph} {qLInt:Vm.RW (List Int)} (hQ:EQ qIu8 qGEx qGRule qStr qInt qGExO qGOcc qGNode qGNodeS qGGraphS2 qGGraph qGEv qGFire qGOccO qLGOcc qBool qGGraphS qLInt)
include hQ
theorem xG {p0:List Int} {r:Gl14Rd} (hh:jR.f p0=some r):ah P 48 [tA (qIu8 p0)] [hA] (.obox [tA (qIu8 r.b),iA r.p]):=by
 unfold jR.f at hh
 refine gp [(2,none)] [.own] [.skip] Tryz.func48 ?_
 unhygienic intros
 cbv
 exact D

theorem bV {p0:Gl14Rd} {p1:Int} {r:Int×Gl14Rd} (hh:aT.f p0 p1=some r):ah P 117 [.obox [tA (qIu8 p0.b),iA p0.p],iA p1] [.obox [tA (qIu8 r.2.b),iA r.2.p],hA] (iA r.1):=by
 obtain⟨p0a,p0b⟩:=p0
 unfold aT.f at hh
 refine gp [(4,none)] [.own] [.own,.skip] Tryz.func117 ?_
 unhygienic intros
 cbv
 exact D

theorem dF {p0:Gl14Rd} {p1:List Int} {r:Int×Gl14Rd} (hh:aE.f p0 p1=some r):ah P 101 [.obox [tA (qIu8 p0.b),iA p0.p],tA (qInt p1)] [.obox [tA (qIu8 r.2.b),iA r.2.p],hA] (iA r.1):=by
 obtain⟨p0a,p0b⟩:=p0
 unfold aE.f at hh
 refine gp [(4,none)] [.own] [.own,.skip] Tryz.func101 ?_
 unhygienic intros
 cbv
 have c1:=@bV
 exact D

theorem la {p0:Int} {r:Int} (hh:gk.f p0=some r):ah P 120 [iA p0] [hA] (iA r):=by
 unfold gk.f at hh
 refine gp [(2,none)] [.own] [.skip] Tryz.func120 ?_
 unhygienic intros
 cbv
 exact D

theorem Gn:∀k:Nat,(∀{p0:Gl14Rd} {p1:Int} {r:GEx×Gl14Rd},aH.f k p0 p1=some r→ah P 138 [.obox [tA (qIu8 p0.b),iA p0.p],iA p1] [.obox [tA (qIu8 r.2.b),iA r.2.p],hA] (.agg [iA r.1.Kind,iA r.1.Sym,iA r.1.N,oA 4 (qGExO r.1.Kids)])):=by
  intro k
  induction k using Nat.strongRecOn with
  |_ k ih=>
  · intro p0 p1 r hh
    cases k with
    |zero=>unfold aH.f at hh;cases hh
    |succ k=>
    obtain⟨p0a,p0b⟩:=p0
    unfold aH.f at hh
    refine gp [(4,some 25)] [.own] [.own,.skip] Tryz.func138 ?_
    unhygienic intros
    cbv
    replace hh:=bU hh
    rcases hh with⟨L,hh⟩|⟨L,hh⟩
    have o:(lt 1 p1)=true:=Tb L
    have g:=o;cbv at g;try rw[o]
    try rw[g]
    cbv
    obtain⟨⟨Z,⟨X,Y⟩⟩,h3,hh⟩:=ag hh
    try dsimp only at hh
    have fc:=bV hQ h3
    try dsimp only at fc
    refine ak hF fc ?_
    cbv
    refine bcs (fun s=>?_) (fun s=>?_)
    replace hh:=ifT hh s
    try rw[s]
    cbv
    have c1:=@dF
    exact D
    replace hh:=ifF hh s
    try rw[s]
    cbv
    obtain⟨⟨c,⟨O,Q⟩⟩,R,hh⟩:=ag hh
    try dsimp only at hh
    refine⟨Ob,?_⟩
    have fc:=dF hQ R
    try dsimp only at fc
    refine ak hF fc ?_
    cbv
    refine bcs (fun d=>?_) (fun d=>?_)
    replace hh:=ifT hh d
    try rw[d]
    cbv
    obtain⟨⟨j,⟨S,T⟩⟩,U,hh⟩:=ag hh
    try dsimp only at hh
    refine⟨Ob,?_⟩
    have fc:=dF hQ U
    try dsimp only at fc
    refine ak hF fc ?_
    cbv
    obtain⟨Ic,V,hh⟩:=ag hh
    refine ak hF (la hQ V) ?_
    cbv
    obtain⟨M,t,hq1⟩:=ag hh
    refine lg hC (U4 (aH.l0 k (aH.f k) p1))
     (fun⟨z,A,u,B⟩=>⟨[(0,mA (0,0)),(1,iA p1),(4,mA (4,0)),(5,mA (5,0)),(6,iA B),(1000000,mA (0,0))],[((0,0),.box 1 [tA (qIu8 z),iA A]),((4,0),.box 1 [iA 0,iA 0,iA 0,zA]),((5,0),.box 1 [iA c,iA 0,iA j,rA (5,53) (len (qGExO u))]),((5,53),.arr 1 4 (qGExO u))]⟩)
     (fun⟨v,C,F⟩=>⟨[(4,mA (4,0)),(5,mA (5,0)),(1000000,mA (0,0))],[((0,0),.box 1 [tA (qIu8 C),iA F]),((4,0),.box 1 [iA 0,iA 0,iA 0,zA]),((5,0),.box 1 [iA c,iA 0,iA j,rA (5,53) (len (qGExO v))]),((5,53),.arr 1 4 (qGExO v))]⟩) (fun x=>x) (.exit 0)
     (i0:=(_,_,_,_)) t (fun⟨t0,t1,t2,t3⟩ e=>kA) ?_ ?_
    rintro⟨v,C,F⟩ hx
    subst M
    have hh:=hq1
    cbv
    exact Eb
    rintro n ⟨z,A,u,B⟩ N1 D1 hh hN1 hD1 hQ1
    dsimp only[U4] at hh
    unfold aH.l0 at hh
    cbv
    have d1:=@ih k (Nat.lt_succ_self k)
    exact D
    replace hh:=ifF hh d
    try rw[d]
    cbv
    obtain⟨Io,W,hh⟩:=ag hh
    refine ak hF (la hQ W) ?_
    cbv
    obtain⟨M,t,hq1⟩:=ag hh
    refine lg hC (U4 (aH.l1 k (aH.f k) p1))
     (fun⟨G,H,w,I⟩=>⟨[(0,mA (0,0)),(1,iA p1),(4,mA (4,0)),(5,mA (5,0)),(6,iA I),(1000000,mA (0,0))],[((0,0),.box 1 [tA (qIu8 G),iA H]),((4,0),.box 1 [iA 0,iA 0,iA 0,zA]),((5,0),.box 1 [iA c,iA 0,iA 0,rA (5,53) (len (qGExO w))]),((5,53),.arr 1 4 (qGExO w))]⟩)
     (fun⟨y,J,K⟩=>⟨[(4,mA (4,0)),(5,mA (5,0)),(1000000,mA (0,0))],[((0,0),.box 1 [tA (qIu8 J),iA K]),((4,0),.box 1 [iA 0,iA 0,iA 0,zA]),((5,0),.box 1 [iA c,iA 0,iA 0,rA (5,53) (len (qGExO y))]),((5,53),.arr 1 4 (qGExO y))]⟩) (fun x=>x) (.exit 0)
     (i0:=(_,_,_,_)) t (fun⟨t0,t1,t2,t3⟩ e=>kA) ?_ ?_
    rintro⟨y,J,K⟩ hx
    subst M
    have hh:=hq1
    cbv
    exact Eb
    rintro n ⟨G,H,w,I⟩ N1 D1 hh hN1 hD1 hQ1
    dsimp only[U4] at hh
    unfold aH.l1 at hh
    cbv
    have d1:=@ih k (Nat.lt_succ_self k)
    exact D
    have o:(lt 1 p1)=false:=Fb L
    have g:=o;cbv at g;try rw[o]
    try rw[g]
    cbv
    have c1:=@dF
    exact D
theorem ux {k:Nat} {p0:Gl14Rd} {p1:Int} {r:GEx×Gl14Rd} (hh:aH.f k p0 p1=some r):ah P 138 [.obox [tA (qIu8 p0.b),iA p0.p],iA p1] [.obox [tA (qIu8 r.2.b),iA r.2.p],hA] (.agg [iA r.1.Kind,iA r.1.Sym,iA r.1.N,oA 4 (qGExO r.1.Kids)]):=(Gn hQ k) hh


theorem H6:∀k:Nat,(∀{p0:GEx} {p1:Int} {r:Bool},ay.f k p0 p1=some r→ah P 53 [.agg [iA p0.Kind,iA p0.Sym,iA p0.N,tA (qGEx p0.Kids)],iA p1] [hA,hA] (bA r)):=by
  intro k
  induction k using Nat.strongRecOn with
  |_ k ih=>
  · intro p0 p1 r hh
    cases k with
    |zero=>unfold ay.f at hh;cases hh
    |succ k=>
    obtain⟨p0a,p0b,p0c,p0d⟩:=p0
    unfold ay.f at hh
    refine gp [(4,none)] [.own] [.skip,.skip] Tryz.func53 ?_
    unhygienic intros
    cbv
    refine bcs (fun B=>?_) (fun B=>?_)
    replace hh:=ifT hh B
    try rw[B]
    cbv
    exact Eb
    replace hh:=ifF hh B
    try rw[B]
    cbv
    obtain⟨T,U,hh⟩:=ag hh
    refine ak hF (la hQ U) ?_
    cbv
    replace hh:=bU hh
    rcases hh with⟨Q,hh⟩|⟨Q,hh⟩
    have C:(eq T (cast (len (qGEx p0d))))=true:=Tb Q
    have g:=C;cbv at g;try rw[C]
    try rw[g]
    cbv
    refine bcs (fun F=>?_) (fun F=>?_)
    replace hh:=ifT hh F
    try rw[F]
    cbv
    exact Eb
    replace hh:=ifF hh F
    try rw[F]
    cbv
    replace hh:=bU hh
    rcases hh with⟨G,hh⟩|⟨G,hh⟩
    have o:(lt p0b 5)=true:=Tb G
    have g:=o;cbv at g;try rw[o]
    try rw[g]
    cbv
    replace hh:=bU hh
    rcases hh with⟨H,hh⟩|⟨H,hh⟩
    have p:(eq p0a 1)=true:=Tb H
    have g:=p;cbv at g;try rw[p]
    try rw[g]
    cbv
    refine bcs (fun b=>?_) (fun b=>?_)
    replace hh:=ifT hh b
    try rw[b]
    cbv
    refine bcs (fun s=>?_) (fun s=>?_)
    replace hh:=ifT hh s
    try rw[s]
    cbv
    exact Eb
    replace hh:=ifF hh s
    try rw[s]
    cbv
    refine bcs (fun t=>?_) (fun t=>?_)
    replace hh:=ifT hh t
    try rw[t]
    cbv
    exact Eb
    replace hh:=ifF hh t
    try rw[t]
    cbv
    first|rw[b]|(have g:=b;cbv at g;rw[g])
    cbv
    obtain⟨z,d,hq1⟩:=ag hh
    refine lg hC (ay.l0 k (ay.f k) (⟨p0a,p0b,p0c,p0d⟩:GEx) p1)
     (fun M=>⟨[(1,iA p1),(2,mA (2,0)),(5,iA M)],[((2,0),.box 1 [iA p0a,iA p0b,iA p0c,tA (qGEx p0d)])]⟩)
     (fun(_:Unit)=>⟨[],[]⟩) .ok (.exit 0)
     (i0:=_) d (fun t0 e=>kA) ?_ ?_
    rintro _ hx
    subst z
    have hh:=hq1
    cbv
    exact Eb
    rintro n M R S hh hN1 hD1 hQ1
    unfold ay.l0 at hh
    cbv
    have d1:=@ih k (Nat.lt_succ_self k)
    exact D
    replace hh:=ifF hh b
    try rw[b]
    cbv
    first|rw[b]|(have g:=b;cbv at g;rw[g])
    cbv
    replace hh:=bU hh
    rcases hh with⟨I,hh⟩|⟨I,hh⟩
    have u:(eq p0c 0)=true:=Tb I
    have g:=u;cbv at g;try rw[u]
    try rw[g]
    cbv
    obtain⟨z,d,hq1⟩:=ag hh
    refine lg hC (ay.l1 k (ay.f k) (⟨p0a,p0b,p0c,p0d⟩:GEx) p1)
     (fun O=>⟨[(1,iA p1),(2,mA (2,0)),(5,iA O)],[((2,0),.box 1 [iA p0a,iA p0b,iA p0c,tA (qGEx p0d)])]⟩)
     (fun(_:Unit)=>⟨[],[]⟩) .ok (.exit 0)
     (i0:=_) d (fun t0 e=>kA) ?_ ?_
    rintro _ hx
    subst z
    have hh:=hq1
    cbv
    exact Eb
    rintro n O R S hh hN1 hD1 hQ1
    unfold ay.l1 at hh
    cbv
    have d1:=@ih k (Nat.lt_succ_self k)
    exact D
    have u:(eq p0c 0)=false:=Fb I
    have g:=u;cbv at g;try rw[u]
    try rw[g]
    cbv
    exact Eb
    have p:(eq p0a 1)=false:=Fb H
    have g:=p;cbv at g;try rw[p]
    try rw[g]
    cbv
    replace hh:=bU hh
    rcases hh with⟨J,hh⟩|⟨J,hh⟩
    have v:(eq p0b 0)=true:=Tb J
    have g:=v;cbv at g;try rw[v]
    try rw[g]
    cbv
    refine bcs (fun c=>?_) (fun c=>?_)
    replace hh:=ifT hh c
    try rw[c]
    cbv
    refine bcs (fun w=>?_) (fun w=>?_)
    replace hh:=ifT hh w
    try rw[w]
    cbv
    exact Eb
    replace hh:=ifF hh w
    try rw[w]
    cbv
    refine bcs (fun y=>?_) (fun y=>?_)
    replace hh:=ifT hh y
    try rw[y]
    cbv
    exact Eb
    replace hh:=ifF hh y
    try rw[y]
    cbv
    first|rw[c]|(have g:=c;cbv at g;rw[g])
    cbv
    obtain⟨z,d,hq1⟩:=ag hh
    refine lg hC (ay.l2 k (ay.f k) (⟨p0a,p0b,p0c,p0d⟩:GEx) p1)
     (fun K=>⟨[(1,iA p1),(2,mA (2,0)),(5,iA K)],[((2,0),.box 1 [iA p0a,iA p0b,iA p0c,tA (qGEx p0d)])]⟩)
     (fun(_:Unit)=>⟨[],[]⟩) .ok (.exit 0)
     (i0:=_) d (fun t0 e=>kA) ?_ ?_
    rintro _ hx
    subst z
    have hh:=hq1
    cbv
    exact Eb
    rintro n K R S hh hN1 hD1 hQ1
    unfold ay.l2 at hh
    cbv
    have d1:=@ih k (Nat.lt_succ_self k)
    exact D
    replace hh:=ifF hh c
    try rw[c]
    cbv
    first|rw[c]|(have g:=c;cbv at g;rw[g])
    cbv
    replace hh:=bU hh
    rcases hh with⟨A,hh⟩|⟨A,hh⟩
    have j:(eq p0c 0)=true:=Tb A
    have g:=j;cbv at g;try rw[j]
    try rw[g]
    cbv
    obtain⟨z,d,hq1⟩:=ag hh
    refine lg hC (ay.l3 k (ay.f k) (⟨p0a,p0b,p0c,p0d⟩:GEx) p1)
     (fun L=>⟨[(1,iA p1),(2,mA (2,0)),(5,iA L)],[((2,0),.box 1 [iA p0a,iA p0b,iA p0c,tA (qGEx p0d)])]⟩)
     (fun(_:Unit)=>⟨[],[]⟩) .ok (.exit 0)
     (i0:=_) d (fun t0 e=>kA) ?_ ?_
    rintro _ hx
    subst z
    have hh:=hq1
    cbv
    exact Eb
    rintro n L R S hh hN1 hD1 hQ1
    unfold ay.l3 at hh
    cbv
    have d1:=@ih k (Nat.lt_succ_self k)
    exact D
    have j:(eq p0c 0)=false:=Fb A
    have g:=j;cbv at g;try rw[j]
    try rw[g]
    cbv
    exact Eb
    have v:(eq p0b 0)=false:=Fb J
    have g:=v;cbv at g;try rw[v]
    try rw[g]
    cbv
    exact Eb
    have o:(lt p0b 5)=false:=Fb G
    have g:=o;cbv at g;try rw[o]
    try rw[g]
    cbv
    exact Eb
    have C:(eq T (cast (len (qGEx p0d))))=false:=Fb Q
    have g:=C;cbv at g;try rw[C]
    try rw[g]
    cbv
    exact Eb
theorem Aa {k:Nat} {p0:GEx} {p1:Int} {r:Bool} (hh:ay.f k p0 p1=some r):ah P 53 [.agg [iA p0.Kind,iA p0.Sym,iA p0.N,tA (qGEx p0.Kids)],iA p1] [hA,hA] (bA r):=(H6 hQ k) hh


theorem HD:∀k:Nat,(∀{p0:GEx} {p1:Int} {r:Int},cx.f k p0 p1=some r→ah P 54 [.agg [iA p0.Kind,iA p0.Sym,iA p0.N,tA (qGEx p0.Kids)],iA p1] [hA,hA] (iA r)):=by
  intro k
  induction k using Nat.strongRecOn with
  |_ k ih=>
  · intro p0 p1 r hh
    cases k with
    |zero=>unfold cx.f at hh;cases hh
    |succ k=>
    obtain⟨p0a,p0b,p0c,p0d⟩:=p0
    unfold cx.f at hh
    refine gp [(4,none)] [.own] [.skip,.skip] Tryz.func54 ?_
    unhygienic intros
    cbv
    obtain⟨o,j,hq1⟩:=ag hh
    refine lg hC (U2 (cx.l0 k (cx.f k) (⟨p0a,p0b,p0c,p0d⟩:GEx) p1))
     (fun⟨b,c⟩=>⟨[(1,iA p1),(2,mA (2,0)),(5,iA b),(6,iA c)],[((2,0),.box 1 [iA p0a,iA p0b,iA p0c,tA (qGEx p0d)])]⟩)
     (fun(d:Int)=>⟨[(5,iA d)],[]⟩) (fun x=>x) (.exit 0)
     (i0:=(_,_)) j (fun⟨t0,t1⟩ e=>kA) ?_ ?_
    rintro d hx
    subst o
    have hh:=hq1
    cbv
    exact Eb
    rintro n ⟨b,c⟩ p s hh hN1 hD1 hQ1
    dsimp only[U2] at hh
    unfold cx.l0 at hh
    cbv
    have d1:=@ih k (Nat.lt_succ_self k)
    exact D
theorem zS {k:Nat} {p0:GEx} {p1:Int} {r:Int} (hh:cx.f k p0 p1=some r):ah P 54 [.agg [iA p0.Kind,iA p0.Sym,iA p0.N,tA (qGEx p0.Kids)],iA p1] [hA,hA] (iA r):=(HD hQ k) hh


theorem pH {k:Nat} {p0:GEx} {r:Bool} (hh:iT.f k p0=some r):ah P 17 [.agg [iA p0.Kind,iA p0.Sym,iA p0.N,tA (qGEx p0.Kids)]] [hA] (bA r):=by
 obtain⟨p0a,p0b,p0c,p0d⟩:=p0
 unfold iT.f at hh
 refine gp [(2,none)] [.own] [.skip] Tryz.func17 ?_
 unhygienic intros
 cbv
 have c1:=@Aa
 have c2:=@zS
 exact D
theorem xu {k:Nat} {p0:GEx} {r:Bool} (hh:iT.f k p0=some r):ah P 17 [.agg [iA p0.Kind,iA p0.Sym,iA p0.N,oA 4 (qGExO p0.Kids)]] [.agg [iA p0.Kind,iA p0.Sym,iA p0.N,oA 4 (qGExO p0.Kids)]] (bA r):=by
  cases hQ;exact(pH .mk hh).lend (rfl) (.lend (by simp) .nil)

theorem zI {k:Nat} {p0:Gl14Rd} {r:GEx×Gl14Rd} (hh:ia.f k p0=some r):ah P 116 [.obox [tA (qIu8 p0.b),iA p0.p]] [.obox [tA (qIu8 r.2.b),iA r.2.p]] (.agg [iA r.1.Kind,iA r.1.Sym,iA r.1.N,oA 4 (qGExO r.1.Kids)]):=by
 obtain⟨p0a,p0b⟩:=p0
 unfold ia.f at hh
 refine gp [(2,some 25)] [.own] [.own] Tryz.func116 ?_
 unhygienic intros
 cbv
 have c1:=@bV
 have c2:=@ux
 have c3:=@xu
 exact D

theorem zO {k:Nat} {p0:Gl14Rd} {p1:ByteArray} {r:GRule×Gl14Rd} (hh:kI.f k p0 p1=some r):ah P 77 [.obox [tA (qIu8 p0.b),iA p0.p],sA p1] [.obox [tA (qIu8 r.2.b),iA r.2.p],hA] (.agg [sA r.1.Name,iA r.1.Pri,iA r.1.Mode,iA r.1.Ex.Kind,iA r.1.Ex.Sym,iA r.1.Ex.N,oA 4 (qGExO r.1.Ex.Kids),iA r.1.Low,iA r.1.High,iA r.1.Key,iA r.1.Add,iA r.1.Raise]):=by
 obtain⟨p0a,p0b⟩:=p0
 unfold kI.f at hh
 refine gp [(4,some 60)] [.own] [.own,.skip] Tryz.func77 ?_
 unhygienic intros
 cbv
 have c1:=@zI
 have c2:=@bV
 have c3:=@ux
 have c4:=@dF
 exact D

theorem xZ {k:Nat} {p0:Gl14Rd} {r:(List GRule)×Gl14Rd} (hh:dg.f k p0=some r):ah P 136 [.obox [tA (qIu8 p0.b),iA p0.p]] [.obox [tA (qIu8 r.2.b),iA r.2.p]] (oA 12 (qGRule r.1)):=by
 obtain⟨p0a,p0b⟩:=p0
 unfold dg.f at hh
 refine gp [(2,none)] [.own] [.own] Tryz.func136 ?_
 unhygienic intros
 cbv
 obtain⟨⟨W,⟨U,V⟩⟩,X,hh⟩:=ag hh
 try dsimp only at hh
 have fc:=bV hQ X
 try dsimp only at fc
 refine ak hF fc ?_
 cbv
 obtain⟨Y,L,hq1⟩:=ag hh
 refine lg hC (U4 (dg.l0 k))
  (fun⟨G,H,d,I⟩=>⟨[(0,mA (0,0)),(3,rA (5,0) (len (qGRule d))),(4,iA I),(1000000,mA (0,0))],[((0,0),.box 1 [tA (qIu8 G),iA H]),((5,0),.arr 1 12 (qGRule d))]⟩)
  (fun⟨j,J,K⟩=>⟨[(3,rA (5,0) (len (qGRule j))),(1000000,mA (0,0))],[((0,0),.box 1 [tA (qIu8 J),iA K]),((5,0),.arr 1 12 (qGRule j))]⟩) (fun x=>x) (.exit 0)
  (i0:=(_,_,_,_)) L (fun⟨t0,t1,t2,t3⟩ e=>kA) ?_ ?_
 rintro⟨j,J,K⟩ hx
 subst Y
 have hh:=hq1
 cbv
 exact Eb
 rintro n ⟨G,H,d,I⟩ N1 D1 hh hN1 hD1 hQ1
 dsimp only[U4] at hh
 unfold dg.l0 at hh
 cbv
 refine bcs (fun c=>?_) (fun c=>?_)
 replace hh:=ifT hh c
 try rw[c]
 cbv
 obtain⟨M,hh⟩:=ae hh
 obtain⟨N,hh⟩:=ae hh
 refine⟨Nb M,Mb N,?_⟩
 obtain⟨O,Q,hh⟩:=ag hh
 refine⟨[sA O],Gb Q,?_⟩
 cbv
 obtain⟨⟨⟨o,s,t,⟨u,v,w,y⟩,z,A,B,C,F⟩,⟨R,S⟩⟩,T,hh⟩:=ag hh
 try dsimp only at hh
 have fc:=ah.frz (r':=.agg [sA o,iA s,iA t,iA u,iA v,iA w,tA (qGEx y),iA z,iA A,iA B,iA C,iA F]) (zO hQ T) (by cases hQ;simp)
 try dsimp only at fc
 refine ak hF fc ?_
 cbv
 obtain⟨Z,hh⟩:=ae hh
 exact D
 replace hh:=ifF hh c
 try rw[c]
 cbv
 exact hD1 (_,_,_) _ hh fun⟨t0,t1,t2⟩ e=>kA

theorem Af {k:Nat} {p0:ByteArray} {r:Bool} (hh:dR.f k p0=some r):ah P 78 [sA p0] [hA] (bA r):=by
 unfold dR.f at hh
 refine gp [(2,none)] [.own] [.skip] Tryz.func78 ?_
 unhygienic intros
 cbv
 obtain⟨d,c,hq1⟩:=ag hh
 refine lg hC (dR.l0 k p0)
  (fun b=>⟨[(0,sA p0),(3,iA b)],[]⟩)
  (fun(_:Unit)=>⟨[(0,sA p0)],[]⟩) .ok (.exit 0)
  (i0:=_) c (fun t0 e=>kA) ?_ ?_
 rintro _ hx
 subst d
 have hh:=hq1
 cbv
 exact D
 rintro n b j o hh hN1 hD1 hQ1
 unfold dR.l0 at hh
 cbv
 exact D

theorem nw {p0:Int} {r:Bool} (hh:gm.f p0=some r):ah P 79 [iA p0] [hA] (bA r):=by
 unfold gm.f at hh
 refine gp [(2,none)] [.own] [.skip] Tryz.func79 ?_
 unhygienic intros
 cbv
 exact D

theorem zx {k:Nat} {p0:GRule} {r:Bool} (hh:kK.f k p0=some r):ah P 32 [.agg [sA p0.Name,iA p0.Pri,iA p0.Mode,iA p0.Ex.Kind,iA p0.Ex.Sym,iA p0.Ex.N,tA (qGEx p0.Ex.Kids),iA p0.Low,iA p0.High,iA p0.Key,iA p0.Add,iA p0.Raise]] [hA] (bA r):=by
 obtain⟨p0a,p0b,p0c,⟨p0d,p0e,p0f,p0g⟩,p0h,p0i,p0j,p0k,p0l⟩:=p0
 unfold kK.f at hh
 refine gp [(2,none)] [.own] [.skip] Tryz.func32 ?_
 unhygienic intros
 cbv
 have c1:=@Af
 have c2:=@nw
 have c3:=@pH
 exact D

theorem lY {k:Nat} {p0:List GRule} {r:Bool} (hh:bp.f k p0=some r):ah P 37 [tA (qGRule p0)] [hA] (bA r):=by
 unfold bp.f at hh
 refine gp [(2,none)] [.own] [.skip] Tryz.func37 ?_
 unhygienic intros
 cbv
 refine bcs (fun j=>?_) (fun j=>?_)
 replace hh:=ifT hh j
 try rw[j]
 cbv
 exact Eb
 replace hh:=ifF hh j
 try rw[j]
 cbv
 obtain⟨N,I,hq1⟩:=ag hh
 refine lg hC (bp.l2 k p0)
  (fun b=>⟨[(0,tA (qGRule p0)),(3,iA b)],[]⟩)
  (fun(_:Unit)=>⟨[],[]⟩) .ok (.exit 0)
  (i0:=_) I (fun t0 e=>kA) ?_ ?_
 rintro _ hx
 subst N
 have hh:=hq1
 cbv
 exact Eb
 rintro n b Q R hh hN1 hD1 hQ1
 unfold bp.l2 at hh
 cbv
 refine bcs (fun c=>?_) (fun c=>?_)
 replace hh:=ifT hh c
 try rw[c]
 cbv
 obtain⟨J,hh⟩:=ae hh
 obtain⟨⟨t,u,v,⟨w,y,z,A⟩,B,C,F,G,H⟩,K,hh⟩:=ag hh
 try dsimp only at hh
 refine⟨[sA t,iA u,iA v,iA w,iA y,iA z,tA (qGEx A),iA B,iA C,iA F,iA G,iA H],Nb J,Gb K,?_⟩
 cbv
 obtain⟨s,L,hh⟩:=ag hh
 refine ak hF (zx hQ L) ?_
 cbv
 replace hh:=bU hh
 rcases hh with⟨o,hh⟩|⟨o,hh⟩
 have d:s=true:=Tb o
 have g:=d;cbv at g;try rw[d]
 try rw[g]
 cbv
 obtain⟨O,M,hq2⟩:=ag hh
 refine lg hC (bp.l3 k p0 b)
  (fun p=>⟨[(0,tA (qGRule p0)),(3,iA b),(4,iA p)],[]⟩)
  (fun(_:Unit)=>⟨[(0,tA (qGRule p0)),(3,iA b)],[]⟩) .ok (.exit 2)
  (i0:=_) M (fun t0 e=>kA) ?_ ?_
 rintro _ hx
 subst O
 have hh:=hq2
 cbv
 exact hN1 _ _ hh fun t0 e=>kA
 rintro n p S T hh hN2 hD2 hQ2
 unfold bp.l3 at hh
 cbv
 exact D
 have d:s=false:=Fb o
 have g:=d;cbv at g;try rw[d]
 try rw[g]
 cbv
 exact D
 replace hh:=ifF hh c
 try rw[c]
 cbv
 exact hD1 () _ hh fun _ e=>kA

theorem GT:∀k:Nat,(∀{p0:GEx} {r:GEx},cy.f k p0=some r→ah P 118 [.agg [iA p0.Kind,iA p0.Sym,iA p0.N,tA (qGEx p0.Kids)]] [hA] (.agg [iA r.Kind,iA r.Sym,iA r.N,oA 4 (qGExO r.Kids)])):=by
  intro k
  induction k using Nat.strongRecOn with
  |_ k ih=>
  · intro p0 r hh
    cases k with
    |zero=>unfold cy.f at hh;cases hh
    |succ k=>
    obtain⟨p0a,p0b,p0c,p0d⟩:=p0
    unfold cy.f at hh
    refine gp [(2,some 25)] [.own] [.skip] Tryz.func118 ?_
    unhygienic intros
    cbv
    obtain⟨o,j,hq1⟩:=ag hh
    refine lg hC (U2 (cy.l0 k (cy.f k) (⟨p0a,p0b,p0c,p0d⟩:GEx)))
     (fun⟨b,d⟩=>⟨[(1,mA (1,0)),(2,mA (2,0)),(3,mA (3,0)),(4,iA d)],[((1,0),.box 1 [iA p0a,iA p0b,iA p0c,tA (qGEx p0d)]),((2,0),.box 1 [iA 0,iA 0,iA 0,zA]),((3,0),.box 1 [iA p0a,iA p0b,iA p0c,rA (3,53) (len (qGExO b))]),((3,53),.arr 1 4 (qGExO b))]⟩)
     (fun(c:List GEx)=>⟨[(2,mA (2,0)),(3,mA (3,0))],[((2,0),.box 1 [iA 0,iA 0,iA 0,zA]),((3,0),.box 1 [iA p0a,iA p0b,iA p0c,rA (3,53) (len (qGExO c))]),((3,53),.arr 1 4 (qGExO c))]⟩) (fun x=>x) (.exit 0)
     (i0:=(_,_)) j (fun⟨t0,t1⟩ e=>kA) ?_ ?_
    rintro c hx
    subst o
    have hh:=hq1
    cbv
    exact Eb
    rintro n ⟨b,d⟩ p s hh hN1 hD1 hQ1
    dsimp only[U2] at hh
    unfold cy.l0 at hh
    cbv
    have d1:=@ih k (Nat.lt_succ_self k)
    exact D
theorem zZ {k:Nat} {p0:GEx} {r:GEx} (hh:cy.f k p0=some r):ah P 118 [.agg [iA p0.Kind,iA p0.Sym,iA p0.N,tA (qGEx p0.Kids)]] [hA] (.agg [iA r.Kind,iA r.Sym,iA r.N,oA 4 (qGExO r.Kids)]):=(GT hQ k) hh


theorem rL {k:Nat} {p0:List GRule} {r:List GRule} (hh:dw.f k p0=some r):ah P 164 [tA (qGRule p0)] [hA] (oA 12 (qGRule r)):=by
 unfold dw.f at hh
 refine gp [(2,none)] [.own] [.skip] Tryz.func164 ?_
 unhygienic intros
 cbv
 obtain⟨N,J,hq1⟩:=ag hh
 refine lg hC (U2 (dw.l0 k p0))
  (fun⟨c,j⟩=>⟨[(0,tA (qGRule p0)),(3,rA (6,0) (len (qGRule c))),(4,iA j)],[((6,0),.arr 1 12 (qGRule c))]⟩)
  (fun(d:List GRule)=>⟨[(3,rA (6,0) (len (qGRule d)))],[((6,0),.arr 1 12 (qGRule d))]⟩) (fun x=>x) (.exit 0)
  (i0:=(_,_)) J (fun⟨t0,t1⟩ e=>kA) ?_ ?_
 rintro d hx
 subst N
 have hh:=hq1
 cbv
 exact Eb
 rintro n ⟨c,j⟩ Q R hh hN1 hD1 hQ1
 dsimp only[U2] at hh
 unfold dw.l0 at hh
 cbv
 refine bcs (fun b=>?_) (fun b=>?_)
 replace hh:=ifT hh b
 try rw[b]
 cbv
 obtain⟨K,hh⟩:=ae hh
 obtain⟨⟨o,p,s,⟨t,u,v,w⟩,y,z,A,B,C⟩,L,hh⟩:=ag hh
 try dsimp only at hh
 refine⟨[sA o,iA p,iA s,iA t,iA u,iA v,tA (qGEx w),iA y,iA z,iA A,iA B,iA C],Nb K,Gb L,?_⟩
 cbv
 obtain⟨⟨F,G,H,I⟩,M,hh⟩:=ag hh
 try dsimp only at hh
 have fc:=ah.frz (r':=.agg [iA F,iA G,iA H,tA (qGEx I)]) (zZ hQ M) (by cases hQ;simp)
 try dsimp only at fc
 refine ak hF fc ?_
 cbv
 obtain⟨O,hh⟩:=ae hh
 exact D
 replace hh:=ifF hh b
 try rw[b]
 cbv
 exact hD1 _ _ hh fun t0 e=>kA

theorem wP {p0:Int} {r:ByteArray} (hh:jl.f p0=some r):ah P 239 [iA p0] [hA] (sA r):=by
 unfold jl.f at hh
 refine gp [(2,none)] [.own] [.skip] Tryz.func239 ?_
 unhygienic intros
 cbv
 exact D

end Go.Proofs.YtlbnmldopjadoaaGreat
