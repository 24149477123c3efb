/- The functions of this program do what the plain ones do. -/
import Derived.Test.YtlbnmldopjadoaaGreatC0
namespace Go.Proofs.YtlbnmldopjadoaaGreat
open Go Go.Vm
set_option linter.unusedVariables false
set_option maxHeartbeats 4000000
set_option maxRecDepth 4000
variable {qIu8:Vm.RW Int} {qGEx:Vm.RW GEx} {qGRule:Vm.RW GRule} {qStr:Vm.RW ByteArray} {qInt:Vm.RW Int} {qGExO:Vm.RW GEx} {qGOcc:Vm.RW GOcc} {qGNode:Vm.RW GNode} {qGNodeS:Vm.RW GNode} {qGGraphS2:Vm.RW GGraph} {qGGraph:Vm.RW GGraph} {qGEv:Vm.RW GEv} {qGFire:Vm.RW GFire} {qGOccO:Vm.RW GOcc} {qLGOcc:Vm.RW (List GOcc)} {qBool:Vm.RW Bool} {qGGraphS:Vm.RW GGraph} {qLInt:Vm.RW (List Int)} (hQ:EQ qIu8 qGEx qGRule qStr qInt qGExO qGOcc qGNode qGNodeS qGGraphS2 qGGraph qGEv qGFire qGOccO qLGOcc qBool qGGraphS qLInt)
include hQ
theorem yc {r:List ByteArray} (hh:lN.f=some r):ah P 240 [] [] (oA 1 (qStr r)):=by
 unfold lN.f at hh
 refine gp [(0,none)] [.own] [] Tryz.func240 ?_
 unhygienic intros
 cbv
 exact Eb

theorem Gf:∀k:Nat,(∀{p0:Int} {r:ByteArray},cQ.f k p0=some r→ah P 241 [iA p0] [hA] (sA r)):=by
  intro k
  induction k using Nat.strongRecOn with
  |_ k ih=>
  · intro p0 r hh
    cases k with
    |zero=>unfold cQ.f at hh;cases hh
    |succ k=>
    unfold cQ.f at hh
    refine gp [(2,none)] [.own] [.skip] Tryz.func241 ?_
    unhygienic intros
    cbv
    refine bcs (fun b=>?_) (fun b=>?_)
    replace hh:=ifT hh b
    try rw[b]
    cbv
    exact Eb
    replace hh:=ifF hh b
    try rw[b]
    cbv
    refine bcs (fun c=>?_) (fun c=>?_)
    replace hh:=ifT hh c
    try rw[c]
    cbv
    have d1:=@ih k (Nat.lt_succ_self k)
    exact D
    replace hh:=ifF hh c
    try rw[c]
    cbv
    obtain⟨t,s,hq1⟩:=ag hh
    refine lg hC (U2 (cQ.l0 k))
     (fun⟨d,j⟩=>⟨[(0,iA d),(3,sA j)],[]⟩)
     (fun⟨o,p⟩=>⟨[(0,iA o),(3,sA p)],[]⟩) (fun x=>x) (.exit 0)
     (i0:=(_,_)) s (fun⟨t0,t1⟩ e=>kA) ?_ ?_
    rintro⟨o,p⟩ hx
    subst t
    have hh:=hq1
    cbv
    refine⟨Ob,?_⟩
    exact D
    rintro n ⟨d,j⟩ u v hh hN1 hD1 hQ1
    dsimp only[U2] at hh
    unfold cQ.l0 at hh
    cbv
    exact D
theorem zT {k:Nat} {p0:Int} {r:ByteArray} (hh:cQ.f k p0=some r):ah P 241 [iA p0] [hA] (sA r):=(Gf hQ k) hh


theorem G6:∀k:Nat,(∀{p0:GEx} {r:ByteArray},aQ.f k p0=some r→ah P 203 [.agg [iA p0.Kind,iA p0.Sym,iA p0.N,tA (qGEx p0.Kids)]] [hA] (sA r)):=by
  intro k
  induction k using Nat.strongRecOn with
  |_ k ih=>
  · intro p0 r hh
    cases k with
    |zero=>unfold aQ.f at hh;cases hh
    |succ k=>
    obtain⟨p0a,p0b,p0c,p0d⟩:=p0
    unfold aQ.f at hh
    refine gp [(2,none)] [.own] [.skip] Tryz.func203 ?_
    unhygienic intros
    cbv
    refine bcs (fun c=>?_) (fun c=>?_)
    replace hh:=ifT hh c
    try rw[c]
    cbv
    have c1:=@wP
    exact D
    replace hh:=ifF hh c
    try rw[c]
    cbv
    obtain⟨K,G,hh⟩:=ag hh
    refine ak hF (yc hQ G) ?_
    cbv
    obtain⟨y,hh⟩:=ae hh
    try dsimp only at y
    obtain⟨j,hh⟩:=ae hh
    try dsimp only at j
    refine⟨Nb y,Mb j,?_⟩
    obtain⟨z,A,hh⟩:=ag hh
    refine⟨[sA z],Gb A,?_⟩
    cbv
    refine bcs (fun b=>?_) (fun b=>?_)
    replace hh:=ifT hh b
    try rw[b]
    cbv
    obtain⟨B,hh⟩:=ae hh
    refine⟨Wb B,?_⟩
    obtain⟨J,C,hh⟩:=ag hh
    refine ak hF (zT hQ C) ?_
    cbv
    obtain⟨F,hh⟩:=ae hh
    refine⟨Wb F,?_⟩
    obtain⟨w,d,hq1⟩:=ag hh
    refine lg hC (U2 (aQ.l0 k (aQ.f k) (⟨p0a,p0b,p0c,p0d⟩:GEx)))
     (fun⟨o,p⟩=>⟨[(1,mA (1,0)),(3,sA o),(4,iA p)],[((1,0),.box 1 [iA p0a,iA p0b,iA p0c,tA (qGEx p0d)])]⟩)
     (fun(s:ByteArray)=>⟨[(3,sA s)],[]⟩) (fun x=>x) (.exit 0)
     (i0:=(_,_)) d (fun⟨t0,t1⟩ e=>kA) ?_ ?_
    rintro s hx
    subst w
    have hh:=hq1
    cbv
    exact Eb
    rintro n ⟨o,p⟩ H I hh hN1 hD1 hQ1
    dsimp only[U2] at hh
    unfold aQ.l0 at hh
    cbv
    have d1:=@ih k (Nat.lt_succ_self k)
    exact D
    replace hh:=ifF hh b
    try rw[b]
    cbv
    obtain⟨w,d,hq1⟩:=ag hh
    refine lg hC (U2 (aQ.l1 k (aQ.f k) (⟨p0a,p0b,p0c,p0d⟩:GEx)))
     (fun⟨t,u⟩=>⟨[(1,mA (1,0)),(3,sA t),(4,iA u)],[((1,0),.box 1 [iA p0a,iA p0b,iA p0c,tA (qGEx p0d)])]⟩)
     (fun(v:ByteArray)=>⟨[(3,sA v)],[]⟩) (fun x=>x) (.exit 0)
     (i0:=(_,_)) d (fun⟨t0,t1⟩ e=>kA) ?_ ?_
    rintro v hx
    subst w
    have hh:=hq1
    cbv
    exact Eb
    rintro n ⟨t,u⟩ H I hh hN1 hD1 hQ1
    dsimp only[U2] at hh
    unfold aQ.l1 at hh
    cbv
    have d1:=@ih k (Nat.lt_succ_self k)
    exact D
theorem zJ {k:Nat} {p0:GEx} {r:ByteArray} (hh:aQ.f k p0=some r):ah P 203 [.agg [iA p0.Kind,iA p0.Sym,iA p0.N,tA (qGEx p0.Kids)]] [hA] (sA r):=(G6 hQ k) hh


theorem Co {k:Nat} {p0:List ByteArray} {p1:ByteArray} {r:Int} (hh:dU.f k p0 p1=some r):ah P 204 [tA (qStr p0),sA p1] [hA,hA] (iA r):=by
 unfold dU.f at hh
 refine gp [(4,none)] [.own] [.skip,.skip] Tryz.func204 ?_
 unhygienic intros
 cbv
 obtain⟨d,b,hq1⟩:=ag hh
 refine lg hC (dU.l0 k p0 p1)
  (fun c=>⟨[(0,tA (qStr p0)),(1,sA p1),(5,iA c)],[]⟩)
  (fun(_:Unit)=>⟨[],[]⟩) .ok (.exit 0)
  (i0:=_) b (fun t0 e=>kA) ?_ ?_
 rintro _ hx
 subst d
 have hh:=hq1
 cbv
 exact Eb
 rintro n c j o hh hN1 hD1 hQ1
 unfold dU.l0 at hh
 cbv
 exact D
theorem yi {k:Nat} {p0:List ByteArray} {p1:ByteArray} {r:Int} (hh:dU.f k p0 p1=some r):ah P 204 [oA 1 (qStr p0),sA p1] [oA 1 (qStr p0),hA] (iA r):=by
  cases hQ;exact(Co .mk hh).lend (rfl) (.lend (congrArg A.tree (BC _).symm) (.same rfl .nil))

theorem GV:∀k:Nat,(∀{p0:GGraph} {p1:List ByteArray} {p2:GEx} {r:GGraph×(List ByteArray)×Int},cP.f k p0 p1 p2=some r→ah P 158 [.agg [iA p0.Mode,oA 10 (qGNodeS p0.Nodes),iA p0.Seen,iA p0.Now,bA p0.Full],oA 1 (qStr p1),.agg [iA p2.Kind,iA p2.Sym,iA p2.N,tA (qGEx p2.Kids)]] [hA,hA,hA] (.tup [.agg [iA r.1.Mode,oA 10 (qGNodeS r.1.Nodes),iA r.1.Seen,iA r.1.Now,bA r.1.Full],oA 1 (qStr r.2.1),iA r.2.2])):=by
  intro k
  induction k using Nat.strongRecOn with
  |_ k ih=>
  · intro p0 p1 p2 r hh
    cases k with
    |zero=>unfold cP.f at hh;cases hh
    |succ k=>
    obtain⟨p0a,p0b,p0c,p0d,p0e⟩:=p0
    obtain⟨p2a,p2b,p2c,p2d⟩:=p2
    unfold cP.f at hh
    refine gp [(6,some 91),(7,none),(8,none)] [.own,.own,.own] [.skip,.skip,.skip] Tryz.func158 ?_
    unhygienic intros
    cbv
    obtain⟨G,J,hh⟩:=ag hh
    refine ak hF (zJ hQ J) ?_
    cbv
    obtain⟨H,K,hh⟩:=ag hh
    refine ak hF (yi hQ K) ?_
    cbv
    replace hh:=bU hh
    rcases hh with⟨F,hh⟩|⟨F,hh⟩
    have b:(lt H 0)=true:=Tb F
    have g:=b;cbv at g;try rw[b]
    try rw[g]
    cbv
    obtain⟨L,I,hq1⟩:=ag hh
    refine lg hC (U8 (cP.l0 k (cP.f k) (⟨p2a,p2b,p2c,p2d⟩:GEx)))
     (fun⟨c,t,d,u,v,w,j,y⟩=>⟨[(1,rA (1,0) (len (qStr c))),(3,mA (3,0)),(5,mA (5,0)),(6,mA (6,0)),(9,sA G),(11,mA (11,0)),(12,iA y)],[((0,0),.arr 1 10 (qGNodeS d)),((1,0),.arr 1 1 (qStr c)),((3,0),.box 1 [iA t,rA (0,0) (len (qGNodeS d)),iA u,iA v,bA w]),((5,0),.box 1 [iA p2a,iA p2b,iA p2c,tA (qGEx p2d)]),((6,0),.box 1 [iA 0,zA,iA 0,iA 0,bA false]),((11,0),.box 1 [iA p2a,iA p2b,iA p2c,rA (11,53) (len (qInt j)),zA,zA,zA,zA,zA,iA 0]),((11,53),.arr 1 1 (qInt j))]⟩)
     (fun⟨o,z,p,A,B,C,s⟩=>⟨[(1,rA (1,0) (len (qStr o))),(3,mA (3,0)),(6,mA (6,0)),(9,sA G),(11,mA (11,0))],[((0,0),.arr 1 10 (qGNodeS p)),((1,0),.arr 1 1 (qStr o)),((3,0),.box 1 [iA z,rA (0,0) (len (qGNodeS p)),iA A,iA B,bA C]),((6,0),.box 1 [iA 0,zA,iA 0,iA 0,bA false]),((11,0),.box 1 [iA p2a,iA p2b,iA p2c,rA (11,53) (len (qInt s)),zA,zA,zA,zA,zA,iA 0]),((11,53),.arr 1 1 (qInt s))]⟩) (fun x=>x) (.exit 0)
     (i0:=(_,_,_,_,_,_,_,_)) I (fun⟨t0,t1,t2,t3,t4,t5,t6,t7⟩ e=>kA) ?_ ?_
    rintro⟨o,z,p,A,B,C,s⟩ hx
    subst L
    have hh:=hq1
    cbv
    refine⟨some 3,?_⟩;try cbv
    refine⟨some 3,?_⟩;try cbv
    refine⟨some 3,?_⟩;try cbv
    refine⟨some 3,?_⟩;try cbv
    refine⟨some 3,?_⟩;try cbv
    obtain⟨M,hh⟩:=ae hh
    exact D
    rintro n ⟨c,t,d,u,v,w,j,y⟩ O Q hh hN1 hD1 hQ1
    dsimp only[U8] at hh
    unfold cP.l0 at hh
    cbv
    have d1:=@ih k (Nat.lt_succ_self k)
    exact D
    have b:(lt H 0)=false:=Fb F
    have g:=b;cbv at g;try rw[b]
    try rw[g]
    cbv
    exact Eb
theorem Be {k:Nat} {p0:GGraph} {p1:List ByteArray} {p2:GEx} {r:GGraph×(List ByteArray)×Int} (hh:cP.f k p0 p1 p2=some r):ah P 158 [.agg [iA p0.Mode,oA 10 (qGNodeS p0.Nodes),iA p0.Seen,iA p0.Now,bA p0.Full],oA 1 (qStr p1),.agg [iA p2.Kind,iA p2.Sym,iA p2.N,tA (qGEx p2.Kids)]] [hA,hA,hA] (.tup [.agg [iA r.1.Mode,oA 10 (qGNodeS r.1.Nodes),iA r.1.Seen,iA r.1.Now,bA r.1.Full],oA 1 (qStr r.2.1),iA r.2.2]):=(GV hQ k) hh


theorem xQ {k:Nat} {p0:GEx} {p1:Int} {r:GGraph} (hh:j6.f k p0 p1=some r):ah P 97 [.agg [iA p0.Kind,iA p0.Sym,iA p0.N,tA (qGEx p0.Kids)],iA p1] [hA,hA] (.agg [iA r.Mode,oA 10 (qGNodeS r.Nodes),iA r.Seen,iA r.Now,bA r.Full]):=by
 obtain⟨p0a,p0b,p0c,p0d⟩:=p0
 unfold j6.f at hh
 refine gp [(4,some 91)] [.own] [.skip,.skip] Tryz.func97 ?_
 unhygienic intros
 cbv
 obtain⟨o,B,hh⟩:=ag hh
 refine ak hF (pH hQ B) ?_
 cbv
 replace hh:=bU hh
 rcases hh with⟨d,hh⟩|⟨d,hh⟩
 have c:o=true:=Tb d
 have g:=c;cbv at g;try rw[c]
 try rw[g]
 cbv
 obtain⟨p,C,hh⟩:=ag hh
 refine ak hF (nw hQ C) ?_
 cbv
 replace hh:=bU hh
 rcases hh with⟨j,hh⟩|⟨j,hh⟩
 have b:p=true:=Tb j
 have g:=b;cbv at g;try rw[b]
 try rw[g]
 cbv
 obtain⟨⟨⟨s,t,u,v,w⟩,z,A⟩,y,hh⟩:=ag hh
 try dsimp only at hh
 refine⟨10,?_⟩
 cbv
 refine⟨1,?_⟩
 cbv
 have fc:=Be hQ y
 try dsimp only at fc
 refine ak hF fc ?_
 cbv
 exact Eb
 have b:p=false:=Fb j
 have g:=b;cbv at g;try rw[b]
 try rw[g]
 cbv
 refine⟨10,?_⟩
 cbv
 exact Eb
 have c:o=false:=Fb d
 have g:=c;cbv at g;try rw[c]
 try rw[g]
 cbv
 refine⟨10,?_⟩
 cbv
 exact Eb

theorem yG {k:Nat} {p0:List GRule} {r:GEng} (hh:df.f k p0=some r):ah P 162 [tA (qGRule p0)] [hA] (.agg [tA (qGRule r.Rules),oA 5 (qGGraphS2 r.Graphs),oA 3 (qGEv r.Events),oA 1 (qInt r.Keys),oA 4 (qGFire r.Fired)]):=by
 unfold df.f at hh
 refine gp [(2,some 53)] [.own] [.skip] Tryz.func162 ?_
 unhygienic intros
 cbv
 obtain⟨s,w,hh⟩:=ag hh
 refine ak hF (lY hQ w) ?_
 cbv
 replace hh:=bU hh
 rcases hh with⟨o,hh⟩|⟨o,hh⟩
 have b:s=true:=Tb o
 have g:=b;cbv at g;try rw[b]
 try rw[g]
 cbv
 obtain⟨p,y,hh⟩:=ag hh
 refine ak hF (ah.frz (r':=tA (qGRule p)) (rL hQ y) (by cases hQ;simp)) ?_
 cbv
 obtain⟨z,hh⟩:=ae hh
 obtain⟨t,hh⟩:=ae hh
 obtain⟨u,hh⟩:=ae hh
 refine⟨⟨Nb z,Nb t,Wb u⟩,?_⟩
 obtain⟨A,v,hq1⟩:=ag hh
 refine lg hC (U2 (df.l0 k p0))
  (fun⟨c,j⟩=>⟨[(0,tA (qGRule p0)),(2,mA (2,0)),(3,mA (3,0)),(4,iA j)],[((2,0),.box 1 [zA,zA,zA,zA,zA]),((3,0),.box 1 [tA (qGRule p),rA (3,51) (len (qGGraphS2 c)),zA,rA (11,0) (len (qInt (List.replicate 4 0))),zA]),((3,51),.arr 1 5 (qGGraphS2 c)),((11,0),.arr 1 1 (qInt (List.replicate 4 0)))]⟩)
  (fun(d:List GGraph)=>⟨[(2,mA (2,0)),(3,mA (3,0))],[((2,0),.box 1 [zA,zA,zA,zA,zA]),((3,0),.box 1 [tA (qGRule p),rA (3,51) (len (qGGraphS2 d)),zA,rA (11,0) (len (qInt (List.replicate 4 0))),zA]),((3,51),.arr 1 5 (qGGraphS2 d)),((11,0),.arr 1 1 (qInt (List.replicate 4 0)))]⟩) (fun x=>x) (.exit 0)
  (i0:=(_,_)) v (fun⟨t0,t1⟩ e=>kA) ?_ ?_
 rintro d hx
 subst A
 have hh:=hq1
 cbv
 refine⟨3,?_⟩
 cbv
 refine⟨4,?_⟩
 cbv
 exact Eb
 rintro n ⟨c,j⟩ B C hh hN1 hD1 hQ1
 dsimp only[U2] at hh
 unfold df.l0 at hh
 cbv
 have c1:=@xQ
 exact D
 have b:s=false:=Fb o
 have g:=b;cbv at g;try rw[b]
 try rw[g]
 cbv
 refine⟨0,?_⟩
 cbv
 refine⟨5,?_⟩
 cbv
 refine⟨3,?_⟩
 cbv
 refine⟨1,?_⟩
 cbv
 refine⟨4,?_⟩
 cbv
 exact Eb

theorem CI {p0:GEv} {r:Bool} (hh:ng.f p0=some r):ah P 67 [.agg [iA p0.Sym,iA p0.At,iA p0.Val]] [hA] (bA r):=by
 obtain⟨p0a,p0b,p0c⟩:=p0
 unfold ng.f at hh
 refine gp [(2,none)] [.own] [.skip] Tryz.func67 ?_
 unhygienic intros
 cbv
 exact D

theorem Cb {k:Nat} {p0:List GEv} {r:Bool} (hh:d8.f k p0=some r):ah P 25 [tA (qGEv p0)] [hA] (bA r):=by
 unfold d8.f at hh
 refine gp [(2,none)] [.own] [.skip] Tryz.func25 ?_
 unhygienic intros
 cbv
 refine bcs (fun b=>?_) (fun b=>?_)
 replace hh:=ifT hh b
 try rw[b]
 cbv
 exact Eb
 replace hh:=ifF hh b
 try rw[b]
 cbv
 obtain⟨j,d,hq1⟩:=ag hh
 refine lg hC (d8.l0 k p0)
  (fun c=>⟨[(0,tA (qGEv p0)),(3,iA c)],[]⟩)
  (fun(_:Unit)=>⟨[],[]⟩) .ok (.exit 0)
  (i0:=_) d (fun t0 e=>kA) ?_ ?_
 rintro _ hx
 subst j
 have hh:=hq1
 cbv
 exact Eb
 rintro n c o p hh hN1 hD1 hQ1
 unfold d8.l0 at hh
 cbv
 have c1:=@CI
 exact D

theorem sR {k:Nat} {p0:GOcc} {r:Bool} (hh:dH.f k p0=some r):ah P 109 [.agg [iA p0.From,iA p0.To,tA (qInt p0.Ids)]] [hA] (bA r):=by
 obtain⟨p0a,p0b,p0c⟩:=p0
 unfold dH.f at hh
 refine gp [(2,none)] [.own] [.skip] Tryz.func109 ?_
 unhygienic intros
 cbv
 refine bcs (fun c=>?_) (fun c=>?_)
 replace hh:=ifT hh c
 try rw[c]
 cbv
 exact Eb
 replace hh:=ifF hh c
 try rw[c]
 cbv
 refine bcs (fun d=>?_) (fun d=>?_)
 replace hh:=ifT hh d
 try rw[d]
 cbv
 exact Eb
 replace hh:=ifF hh d
 try rw[d]
 cbv
 refine bcs (fun j=>?_) (fun j=>?_)
 replace hh:=ifT hh j
 try rw[j]
 cbv
 exact Eb
 replace hh:=ifF hh j
 try rw[j]
 cbv
 refine bcs (fun o=>?_) (fun o=>?_)
 replace hh:=ifT hh o
 try rw[o]
 cbv
 exact Eb
 replace hh:=ifF hh o
 try rw[o]
 cbv
 refine bcs (fun b=>?_) (fun b=>?_)
 replace hh:=ifT hh b
 try rw[b]
 cbv
 exact Eb
 replace hh:=ifF hh b
 try rw[b]
 cbv
 obtain⟨t,s,hq1⟩:=ag hh
 refine lg hC (dH.l0 k (⟨p0a,p0b,p0c⟩:GOcc))
  (fun p=>⟨[(1,mA (1,0)),(3,iA p)],[((1,0),.box 1 [iA p0a,iA p0b,tA (qInt p0c)])]⟩)
  (fun(_:Unit)=>⟨[],[]⟩) .ok (.exit 0)
  (i0:=_) s (fun t0 e=>kA) ?_ ?_
 rintro _ hx
 subst t
 have hh:=hq1
 cbv
 exact Eb
 rintro n p u v hh hN1 hD1 hQ1
 unfold dH.l0 at hh
 cbv
 exact D

theorem rV {k:Nat} {p0:List Int} {p1:List Int} {r:Int} (hh:ea.f k p0 p1=some r):ah P 265 [tA (qInt p0),tA (qInt p1)] [hA,hA] (iA r):=by
 unfold ea.f at hh
 refine gp [(4,none)] [.own] [.skip,.skip] Tryz.func265 ?_
 unhygienic intros
 cbv
 obtain⟨d,c,hq1⟩:=ag hh
 refine lg hC (ea.l0 k p0 p1)
  (fun b=>⟨[(0,tA (qInt p0)),(1,tA (qInt p1)),(5,iA b)],[]⟩)
  (fun(_:Unit)=>⟨[(0,tA (qInt p0)),(1,tA (qInt p1))],[]⟩) .ok (.exit 0)
  (i0:=_) c (fun t0 e=>kA) ?_ ?_
 rintro _ hx
 subst d
 have hh:=hq1
 cbv
 exact D
 rintro n b j o hh hN1 hD1 hQ1
 unfold ea.l0 at hh
 cbv
 exact D

theorem qk {k:Nat} {p0:GOcc} {p1:GOcc} {r:Bool} (hh:gE.f k p0 p1=some r):ah P 248 [.agg [iA p0.From,iA p0.To,tA (qInt p0.Ids)],.agg [iA p1.From,iA p1.To,tA (qInt p1.Ids)]] [hA,hA] (bA r):=by
 obtain⟨p0a,p0b,p0c⟩:=p0
 obtain⟨p1a,p1b,p1c⟩:=p1
 unfold gE.f at hh
 refine gp [(4,none)] [.own] [.skip,.skip] Tryz.func248 ?_
 unhygienic intros
 cbv
 have c1:=@rV
 exact D
theorem nu {k:Nat} {p0:List GOcc} {r:Bool} (hh:bZ.f k p0=some r):ah P 212 [tA (qGOcc p0)] [hA] (bA r):=by
 unfold bZ.f at hh
 refine gp [(2,none)] [.own] [.skip] Tryz.func212 ?_
 unhygienic intros
 cbv
 refine bcs (fun b=>?_) (fun b=>?_)
 replace hh:=ifT hh b
 try rw[b]
 cbv
 exact Eb
 replace hh:=ifF hh b
 try rw[b]
 cbv
 obtain⟨j,d,hq1⟩:=ag hh
 refine lg hC (bZ.l0 k p0)
  (fun c=>⟨[(0,tA (qGOcc p0)),(3,iA c)],[]⟩)
  (fun(_:Unit)=>⟨[],[]⟩) .ok (.exit 0)
  (i0:=_) d (fun t0 e=>kA) ?_ ?_
 rintro _ hx
 subst j
 have hh:=hq1
 cbv
 exact Eb
 rintro n c o p hh hN1 hD1 hQ1
 unfold bZ.l0 at hh
 cbv
 have c1:=@sR
 have c2:=@qk
 exact D

theorem zw {k:Nat} {p0:GPair} {r:Bool} (hh:kM.f k p0=some r):ah P 210 [.agg [tA (qGOcc p0.Left),tA (qGOcc p0.Right)]] [hA] (bA r):=by
 obtain⟨p0a,p0b⟩:=p0
 unfold kM.f at hh
 refine gp [(2,none)] [.own] [.skip] Tryz.func210 ?_
 unhygienic intros
 cbv
 have c1:=@nu
 exact D

theorem Ac {k:Nat} {p0:GSpan} {r:Bool} (hh:kz.f k p0=some r):ah P 211 [.agg [tA (qGOcc p0.Left),tA (qGOcc p0.Mid)]] [hA] (bA r):=by
 obtain⟨p0a,p0b⟩:=p0
 unfold kz.f at hh
 refine gp [(2,none)] [.own] [.skip] Tryz.func211 ?_
 unhygienic intros
 cbv
 have c1:=@nu
 exact D

theorem zv {k:Nat} {p0:GNode} {p1:Int} {r:Bool} (hh:bQ.f k p0 p1=some r):ah P 168 [.agg [iA p0.Kind,iA p0.Sym,iA p0.N,tA (qInt p0.Kids),tA (qGOcc p0.Pair.Left),tA (qGOcc p0.Pair.Right),tA (qGOcc p0.Span.Left),tA (qGOcc p0.Span.Mid),tA (qGOcc p0.Due),iA p0.Many],iA p1] [hA,hA] (bA r):=by
 obtain⟨p0a,p0b,p0c,p0d,⟨p0e,p0f⟩,⟨p0g,p0h⟩,p0i,p0j⟩:=p0
 unfold bQ.f at hh
 refine gp [(4,none)] [.own] [.skip,.skip] Tryz.func168 ?_
 unhygienic intros
 cbv
 obtain⟨R,V,hh⟩:=ag hh
 refine ak hF (la hQ V) ?_
 cbv
 replace hh:=bU hh
 rcases hh with⟨M,hh⟩|⟨M,hh⟩
 have w:(eq R (cast (len (qInt p0d))))=true:=Tb M
 have g:=w;cbv at g;try rw[w]
 try rw[g]
 cbv
 refine bcs (fun y=>?_) (fun y=>?_)
 replace hh:=ifT hh y
 try rw[y]
 cbv
 exact Eb
 replace hh:=ifF hh y
 try rw[y]
 cbv
 replace hh:=bU hh
 rcases hh with⟨O,hh⟩|⟨O,hh⟩
 have z:(lt p0b 5)=true:=Tb O
 have g:=z;cbv at g;try rw[z]
 try rw[g]
 cbv
 refine bcs (fun c=>?_) (fun c=>?_)
 replace hh:=ifT hh c
 try rw[c]
 cbv
 exact Eb
 replace hh:=ifF hh c
 try rw[c]
 cbv
 refine bcs (fun d=>?_) (fun d=>?_)
 replace hh:=ifT hh d
 try rw[d]
 cbv
 exact Eb
 replace hh:=ifF hh d
 try rw[d]
 cbv
 obtain⟨H,S,hh⟩:=ag hh
 refine ak hF (zw hQ S) ?_
 cbv
 replace hh:=bU hh
 rcases hh with⟨A,hh⟩|⟨A,hh⟩
 have j:H=true:=Tb A
 have g:=j;cbv at g;try rw[j]
 try rw[g]
 cbv
 obtain⟨I,T,hh⟩:=ag hh
 refine ak hF (Ac hQ T) ?_
 cbv
 replace hh:=bU hh
 rcases hh with⟨B,hh⟩|⟨B,hh⟩
 have o:I=true:=Tb B
 have g:=o;cbv at g;try rw[o]
 try rw[g]
 cbv
 obtain⟨J,U,hh⟩:=ag hh
 refine ak hF (nu hQ U) ?_
 cbv
 replace hh:=bU hh
 rcases hh with⟨C,hh⟩|⟨C,hh⟩
 have p:J=true:=Tb C
 have g:=p;cbv at g;try rw[p]
 try rw[g]
 cbv
 refine bcs (fun b=>?_) (fun b=>?_)
 replace hh:=ifT hh b
 try rw[b]
 cbv
 refine bcs (fun s=>?_) (fun s=>?_)
 replace hh:=ifT hh s
 try rw[s]
 cbv
 exact Eb
 replace hh:=ifF hh s
 try rw[s]
 cbv
 refine bcs (fun t=>?_) (fun t=>?_)
 replace hh:=ifT hh t
 try rw[t]
 cbv
 exact Eb
 replace hh:=ifF hh t
 try rw[t]
 cbv
 first|rw[b]|(have g:=b;cbv at g;rw[g])
 cbv
 obtain⟨Q,F,hq1⟩:=ag hh
 refine lg hC (bQ.l0 k (⟨p0a,p0b,p0c,p0d,⟨p0e,p0f⟩,⟨p0g,p0h⟩,p0i,p0j⟩:GNode) p1)
  (fun K=>⟨[(1,iA p1),(2,mA (2,0)),(5,iA K)],[((2,0),.box 1 [iA p0a,iA p0b,iA p0c,tA (qInt p0d),tA (qGOcc p0e),tA (qGOcc p0f),tA (qGOcc p0g),tA (qGOcc p0h),tA (qGOcc p0i),iA p0j])]⟩)
  (fun(_:Unit)=>⟨[],[]⟩) .ok (.exit 0)
  (i0:=_) F (fun t0 e=>kA) ?_ ?_
 rintro _ hx
 subst Q
 have hh:=hq1
 cbv
 exact Eb
 rintro n K W X hh hN1 hD1 hQ1
 unfold bQ.l0 at hh
 cbv
 exact D
 replace hh:=ifF hh b
 try rw[b]
 cbv
 first|rw[b]|(have g:=b;cbv at g;rw[g])
 cbv
 replace hh:=bU hh
 rcases hh with⟨G,hh⟩|⟨G,hh⟩
 have u:(eq p0c 0)=true:=Tb G
 have g:=u;cbv at g;try rw[u]
 try rw[g]
 cbv
 refine bcs (fun v=>?_) (fun v=>?_)
 replace hh:=ifT hh v
 try rw[v]
 cbv
 exact Eb
 replace hh:=ifF hh v
 try rw[v]
 cbv
 obtain⟨Q,F,hq1⟩:=ag hh
 refine lg hC (bQ.l1 k (⟨p0a,p0b,p0c,p0d,⟨p0e,p0f⟩,⟨p0g,p0h⟩,p0i,p0j⟩:GNode) p1)
  (fun L=>⟨[(1,iA p1),(2,mA (2,0)),(5,iA L)],[((2,0),.box 1 [iA p0a,iA p0b,iA p0c,tA (qInt p0d),tA (qGOcc p0e),tA (qGOcc p0f),tA (qGOcc p0g),tA (qGOcc p0h),tA (qGOcc p0i),iA p0j])]⟩)
  (fun(_:Unit)=>⟨[],[]⟩) .ok (.exit 0)
  (i0:=_) F (fun t0 e=>kA) ?_ ?_
 rintro _ hx
 subst Q
 have hh:=hq1
 cbv
 exact Eb
 rintro n L W X hh hN1 hD1 hQ1
 unfold bQ.l1 at hh
 cbv
 exact D
 have u:(eq p0c 0)=false:=Fb G
 have g:=u;cbv at g;try rw[u]
 try rw[g]
 cbv
 exact Eb
 have p:J=false:=Fb C
 have g:=p;cbv at g;try rw[p]
 try rw[g]
 cbv
 exact Eb
 have o:I=false:=Fb B
 have g:=o;cbv at g;try rw[o]
 try rw[g]
 cbv
 exact Eb
 have j:H=false:=Fb A
 have g:=j;cbv at g;try rw[j]
 try rw[g]
 cbv
 exact Eb
 have z:(lt p0b 5)=false:=Fb O
 have g:=z;cbv at g;try rw[z]
 try rw[g]
 cbv
 exact Eb
 have w:(eq R (cast (len (qInt p0d))))=false:=Fb M
 have g:=w;cbv at g;try rw[w]
 try rw[g]
 cbv
 exact Eb

end Go.Proofs.YtlbnmldopjadoaaGreat
