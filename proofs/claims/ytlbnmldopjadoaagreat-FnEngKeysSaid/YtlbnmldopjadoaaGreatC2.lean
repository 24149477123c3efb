/- The functions of this program do what the plain ones do. -/
import Derived.Test.YtlbnmldopjadoaaGreatC1
namespace Go.Proofs.YtlbnmldopjadoaaGreat
open Go Go.Vm
set_option linter.unusedVariables false
set_option maxHeartbeats 4000000
set_option maxRecDepth 4000
variable {qIu8:Vm.RW Int} {qGEx:Vm.RW GEx} {qGRule:Vm.RW GRule} {qStr:Vm.RW ByteArray} {qInt:Vm.RW Int} {qGExO:Vm.RW GEx} {qGOcc:Vm.RW GOcc} {qGNode:Vm.RW GNode} {qGNodeS:Vm.RW GNode} {qGGraphS2:Vm.RW GGraph} {qGGraph:Vm.RW GGraph} {qGEv:Vm.RW GEv} {qGFire:Vm.RW GFire} {qGOccO:Vm.RW GOcc} {qLGOcc:Vm.RW (List GOcc)} {qBool:Vm.RW Bool} {qGGraphS:Vm.RW GGraph} {qLInt:Vm.RW (List Int)} (hQ:EQ qIu8 qGEx qGRule qStr qInt qGExO qGOcc qGNode qGNodeS qGGraphS2 qGGraph qGEv qGFire qGOccO qLGOcc qBool qGGraphS qLInt)
include hQ
theorem xt {k:Nat} {p0:GGraph} {r:Bool} (hh:bJ.f k p0=some r):ah P 106 [.agg [iA p0.Mode,tA (qGNode p0.Nodes),iA p0.Seen,iA p0.Now,bA p0.Full]] [hA] (bA r):=by
 obtain⟨p0a,p0b,p0c,p0d,p0e⟩:=p0
 unfold bJ.f at hh
 refine gp [(2,none)] [.own] [.skip] Tryz.func106 ?_
 unhygienic intros
 cbv
 obtain⟨R,U,hh⟩:=ag hh
 refine ak hF (nw hQ U) ?_
 cbv
 replace hh:=bU hh
 rcases hh with⟨M,hh⟩|⟨M,hh⟩
 have u:R=true:=Tb M
 have g:=u;cbv at g;try rw[u]
 try rw[g]
 cbv
 refine bcs (fun v=>?_) (fun v=>?_)
 replace hh:=ifT hh v
 try rw[v]
 cbv
 exact Eb
 replace hh:=ifF hh v
 try rw[v]
 cbv
 refine bcs (fun w=>?_) (fun w=>?_)
 replace hh:=ifT hh w
 try rw[w]
 cbv
 exact Eb
 replace hh:=ifF hh w
 try rw[w]
 cbv
 refine bcs (fun d=>?_) (fun d=>?_)
 replace hh:=ifT hh d
 try rw[d]
 cbv
 exact Eb
 replace hh:=ifF hh d
 try rw[d]
 cbv
 refine bcs (fun j=>?_) (fun j=>?_)
 replace hh:=ifT hh j
 try rw[j]
 cbv
 exact Eb
 replace hh:=ifF hh j
 try rw[j]
 cbv
 refine bcs (fun o=>?_) (fun o=>?_)
 replace hh:=ifT hh o
 try rw[o]
 cbv
 exact Eb
 replace hh:=ifF hh o
 try rw[o]
 cbv
 refine bcs (fun p=>?_) (fun p=>?_)
 replace hh:=ifT hh p
 try rw[p]
 cbv
 exact Eb
 replace hh:=ifF hh p
 try rw[p]
 cbv
 obtain⟨V,S,hq1⟩:=ag hh
 refine lg hC (bJ.l2 k (⟨p0a,p0b,p0c,p0d,p0e⟩:GGraph))
  (fun s=>⟨[(1,mA (1,0)),(3,iA s)],[((1,0),.box 1 [iA p0a,tA (qGNode p0b),iA p0c,iA p0d,bA p0e])]⟩)
  (fun(_:Unit)=>⟨[],[]⟩) .ok (.exit 0)
  (i0:=_) S (fun t0 e=>kA) ?_ ?_
 rintro _ hx
 subst V
 have hh:=hq1
 cbv
 exact Eb
 rintro n s Y Z hh hN1 hD1 hQ1
 unfold bJ.l2 at hh
 cbv
 refine bcs (fun b=>?_) (fun b=>?_)
 replace hh:=ifT hh b
 try rw[b]
 cbv
 obtain⟨N,hh⟩:=ae hh
 obtain⟨⟨A,B,C,F,⟨G,H⟩,⟨I,J⟩,K,L⟩,O,hh⟩:=ag hh
 try dsimp only at hh
 refine⟨[iA A,iA B,iA C,tA (qInt F),tA (qGOcc G),tA (qGOcc H),tA (qGOcc I),tA (qGOcc J),tA (qGOcc K),iA L],Nb N,Gb O,?_⟩
 cbv
 obtain⟨y,Q,hh⟩:=ag hh
 refine ak hF (zv hQ Q) ?_
 cbv
 replace hh:=bU hh
 rcases hh with⟨t,hh⟩|⟨t,hh⟩
 have c:y=true:=Tb t
 have g:=c;cbv at g;try rw[c]
 try rw[g]
 cbv
 obtain⟨W,T,hq2⟩:=ag hh
 refine lg hC (bJ.l3 k (⟨p0a,p0b,p0c,p0d,p0e⟩:GGraph) s)
  (fun z=>⟨[(1,mA (1,0)),(3,iA s),(4,iA z)],[((1,0),.box 1 [iA p0a,tA (qGNode p0b),iA p0c,iA p0d,bA p0e])]⟩)
  (fun(_:Unit)=>⟨[(1,mA (1,0)),(3,iA s)],[((1,0),.box 1 [iA p0a,tA (qGNode p0b),iA p0c,iA p0d,bA p0e])]⟩) .ok (.exit 2)
  (i0:=_) T (fun t0 e=>kA) ?_ ?_
 rintro _ hx
 subst W
 have hh:=hq2
 cbv
 exact hN1 _ _ hh fun t0 e=>kA
 rintro n z N2 D2 hh hN2 hD2 hQ2
 unfold bJ.l3 at hh
 cbv
 obtain⟨X,hh⟩:=ae hh
 exact D
 have c:y=false:=Fb t
 have g:=c;cbv at g;try rw[c]
 try rw[g]
 cbv
 exact D
 replace hh:=ifF hh b
 try rw[b]
 cbv
 exact hD1 () _ hh fun _ e=>kA
 have u:R=false:=Fb M
 have g:=u;cbv at g;try rw[u]
 try rw[g]
 cbv
 exact Eb

theorem ot {p0:List GEv} {r:Int} (hh:gX.f p0=some r):ah P 104 [tA (qGEv p0)] [hA] (iA r):=by
 unfold gX.f at hh
 refine gp [(2,none)] [.own] [.skip] Tryz.func104 ?_
 unhygienic intros
 cbv
 exact D
theorem wg {p0:List GEv} {r:Int} (hh:gX.f p0=some r):ah P 104 [oA 3 (qGEv p0)] [oA 3 (qGEv p0)] (iA r):=by
  cases hQ;exact(ot .mk hh).lend (rfl) (.lend (congrArg A.tree (vF _).symm) .nil)

theorem yo {k:Nat} {p0:List GOcc} {p1:Int} {r:Bool} (hh:cc.f k p0 p1=some r):ah P 169 [tA (qGOcc p0),iA p1] [hA,hA] (bA r):=by
 unfold cc.f at hh
 refine gp [(4,none)] [.own] [.skip,.skip] Tryz.func169 ?_
 unhygienic intros
 cbv
 obtain⟨d,c,hq1⟩:=ag hh
 refine lg hC (cc.l0 k p0 p1)
  (fun b=>⟨[(0,tA (qGOcc p0)),(1,iA p1),(5,iA b)],[]⟩)
  (fun(_:Unit)=>⟨[],[]⟩) .ok (.exit 0)
  (i0:=_) c (fun t0 e=>kA) ?_ ?_
 rintro _ hx
 subst d
 have hh:=hq1
 cbv
 exact Eb
 rintro n b j o hh hN1 hD1 hQ1
 unfold cc.l0 at hh
 cbv
 exact D

theorem yg {k:Nat} {p0:GGraph} {p1:Int} {r:Bool} (hh:dl.f k p0 p1=some r):ah P 107 [.agg [iA p0.Mode,tA (qGNode p0.Nodes),iA p0.Seen,iA p0.Now,bA p0.Full],iA p1] [hA,hA] (bA r):=by
 obtain⟨p0a,p0b,p0c,p0d,p0e⟩:=p0
 unfold dl.f at hh
 refine gp [(4,none)] [.own] [.skip,.skip] Tryz.func107 ?_
 unhygienic intros
 cbv
 obtain⟨d,c,hq1⟩:=ag hh
 refine lg hC (dl.l0 k (⟨p0a,p0b,p0c,p0d,p0e⟩:GGraph) p1)
  (fun b=>⟨[(1,iA p1),(2,mA (2,0)),(5,iA b)],[((2,0),.box 1 [iA p0a,tA (qGNode p0b),iA p0c,iA p0d,bA p0e])]⟩)
  (fun(_:Unit)=>⟨[],[]⟩) .ok (.exit 0)
  (i0:=_) c (fun t0 e=>kA) ?_ ?_
 rintro _ hx
 subst d
 have hh:=hq1
 cbv
 exact Eb
 rintro n b j o hh hN1 hD1 hQ1
 unfold dl.l0 at hh
 cbv
 have c1:=@yo
 exact D

theorem tl {p0:Int} {r:Bool} (hh:hU.f p0=some r):ah P 108 [iA p0] [hA] (bA r):=by
 unfold hU.f at hh
 refine gp [(2,none)] [.own] [.skip] Tryz.func108 ?_
 unhygienic intros
 cbv
 exact D

theorem By {k:Nat} {p0:GEng} {r:Bool} (hh:bt.f k p0=some r):ah P 45 [.agg [tA (qGRule p0.Rules),tA (qGGraph p0.Graphs),tA (qGEv p0.Events),tA (qInt p0.Keys),tA (qGFire p0.Fired)]] [hA] (bA r):=by
 obtain⟨p0a,p0b,p0c,p0d,p0e⟩:=p0
 unfold bt.f at hh
 refine gp [(2,none)] [.own] [.skip] Tryz.func45 ?_
 unhygienic intros
 cbv
 obtain⟨A,G,hh⟩:=ag hh
 refine ak hF (lY hQ G) ?_
 cbv
 replace hh:=bU hh
 rcases hh with⟨y,hh⟩|⟨y,hh⟩
 have j:A=true:=Tb y
 have g:=j;cbv at g;try rw[j]
 try rw[g]
 cbv
 replace hh:=bU hh
 rcases hh with⟨z,hh⟩|⟨z,hh⟩
 have o:(eq (cast (len (qGGraph p0b))) (cast (len (qGRule p0a))))=true:=Tb z
 have g:=o;cbv at g;try rw[o]
 try rw[g]
 cbv
 obtain⟨B,H,hh⟩:=ag hh
 refine ak hF (Cb hQ H) ?_
 cbv
 replace hh:=bU hh
 rcases hh with⟨p,hh⟩|⟨p,hh⟩
 have b:B=true:=Tb p
 have g:=b;cbv at g;try rw[b]
 try rw[g]
 cbv
 replace hh:=bU hh
 rcases hh with⟨s,hh⟩|⟨s,hh⟩
 have c:(eq (cast (len (qInt p0d))) 4)=true:=Tb s
 have g:=c;cbv at g;try rw[c]
 try rw[g]
 cbv
 obtain⟨t,d,hq1⟩:=ag hh
 refine lg hC (bt.l0 k (⟨p0a,p0b,p0c,p0d,p0e⟩:GEng))
  (fun w=>⟨[(1,mA (1,0)),(3,iA w)],[((1,0),.box 1 [tA (qGRule p0a),tA (qGGraph p0b),tA (qGEv p0c),tA (qInt p0d),tA (qGFire p0e)])]⟩)
  (fun(_:Unit)=>⟨[(1,mA (1,0))],[((1,0),.box 1 [tA (qGRule p0a),tA (qGGraph p0b),tA (qGEv p0c),tA (qInt p0d),tA (qGFire p0e)])]⟩) .ok (.exit 0)
  (i0:=_) d (fun t0 e=>kA) ?_ ?_
 rintro _ hx
 subst t
 have hh:=hq1
 cbv
 obtain⟨t,d,hq1⟩:=ag hh
 refine lg hC (bt.l1 k (⟨p0a,p0b,p0c,p0d,p0e⟩:GEng))
  (fun u=>⟨[(1,mA (1,0)),(4,iA u)],[((1,0),.box 1 [tA (qGRule p0a),tA (qGGraph p0b),tA (qGEv p0c),tA (qInt p0d),tA (qGFire p0e)])]⟩)
  (fun(_:Unit)=>⟨[(1,mA (1,0))],[((1,0),.box 1 [tA (qGRule p0a),tA (qGGraph p0b),tA (qGEv p0c),tA (qInt p0d),tA (qGFire p0e)])]⟩) .ok (.exit 2)
  (i0:=_) d (fun t0 e=>kA) ?_ ?_
 rintro _ hx
 subst t
 have hh:=hq1
 cbv
 obtain⟨t,d,hq1⟩:=ag hh
 refine lg hC (bt.l2 k (⟨p0a,p0b,p0c,p0d,p0e⟩:GEng))
  (fun v=>⟨[(1,mA (1,0)),(5,iA v)],[((1,0),.box 1 [tA (qGRule p0a),tA (qGGraph p0b),tA (qGEv p0c),tA (qInt p0d),tA (qGFire p0e)])]⟩)
  (fun(_:Unit)=>⟨[],[]⟩) .ok (.exit 4)
  (i0:=_) d (fun t0 e=>kA) ?_ ?_
 rintro _ hx
 subst t
 have hh:=hq1
 cbv
 exact Eb
 rintro n v C F hh hN1 hD1 hQ1
 unfold bt.l2 at hh
 cbv
 have c1:=@sR
 exact D
 rintro n u C F hh hN1 hD1 hQ1
 unfold bt.l1 at hh
 cbv
 have c1:=@tl
 exact D
 rintro n w C F hh hN1 hD1 hQ1
 unfold bt.l0 at hh
 cbv
 have c1:=@xt
 have c2:=@ot
 have c3:=@yg
 exact D
 have c:(eq (cast (len (qInt p0d))) 4)=false:=Fb s
 have g:=c;cbv at g;try rw[c]
 try rw[g]
 cbv
 exact Eb
 have b:B=false:=Fb p
 have g:=b;cbv at g;try rw[b]
 try rw[g]
 cbv
 exact Eb
 have o:(eq (cast (len (qGGraph p0b))) (cast (len (qGRule p0a))))=false:=Fb z
 have g:=o;cbv at g;try rw[o]
 try rw[g]
 cbv
 exact Eb
 have j:A=false:=Fb y
 have g:=j;cbv at g;try rw[j]
 try rw[g]
 cbv
 exact Eb

theorem gQ {p0:GOcc} {r:GOcc} (hh:eE.f p0=some r):ah P 161 [.agg [iA p0.From,iA p0.To,tA (qInt p0.Ids)]] [hA] (.agg [iA r.From,iA r.To,oA 1 (qInt r.Ids)]):=by
 obtain⟨p0a,p0b,p0c⟩:=p0
 unfold eE.f at hh
 refine gp [(2,some 67)] [.own] [.skip] Tryz.func161 ?_
 unhygienic intros
 cbv
 exact D

theorem rB {k:Nat} {p0:List GFire} {r:List GFire} (hh:cW.f k p0=some r):ah P 105 [tA (qGFire p0)] [hA] (oA 4 (qGFire r)):=by
 unfold cW.f at hh
 refine gp [(2,none)] [.own] [.skip] Tryz.func105 ?_
 unhygienic intros
 cbv
 obtain⟨K,C,hq1⟩:=ag hh
 refine lg hC (U2 (cW.l0 k p0))
  (fun⟨c,j⟩=>⟨[(0,tA (qGFire p0)),(3,rA (5,0) (len (qGFire c))),(4,iA j)],[((5,0),.arr 1 4 (qGFire c))]⟩)
  (fun(d:List GFire)=>⟨[(3,rA (5,0) (len (qGFire d)))],[((5,0),.arr 1 4 (qGFire d))]⟩) (fun x=>x) (.exit 0)
  (i0:=(_,_)) C (fun⟨t0,t1⟩ e=>kA) ?_ ?_
 rintro d hx
 subst K
 have hh:=hq1
 cbv
 exact Eb
 rintro n ⟨c,j⟩ M N hh hN1 hD1 hQ1
 dsimp only[U2] at hh
 unfold cW.l0 at hh
 cbv
 refine bcs (fun b=>?_) (fun b=>?_)
 replace hh:=ifT hh b
 try rw[b]
 cbv
 obtain⟨F,hh⟩:=ae hh
 obtain⟨⟨o,⟨p,s,t⟩⟩,G,hh⟩:=ag hh
 try dsimp only at hh
 refine⟨[iA o,iA p,iA s,tA (qInt t)],Nb F,Gb G,?_⟩
 cbv
 obtain⟨H,hh⟩:=ae hh
 obtain⟨⟨u,⟨v,w,y⟩⟩,I,hh⟩:=ag hh
 try dsimp only at hh
 refine⟨[iA u,iA v,iA w,tA (qInt y)],Nb H,Gb I,?_⟩
 cbv
 obtain⟨⟨z,A,B⟩,J,hh⟩:=ag hh
 try dsimp only at hh
 have fc:=ah.frz (r':=.agg [iA z,iA A,tA (qInt B)]) (gQ hQ J) (by cases hQ;simp)
 try dsimp only at fc
 refine ak hF fc ?_
 cbv
 obtain⟨L,hh⟩:=ae hh
 exact D
 replace hh:=ifF hh b
 try rw[b]
 cbv
 exact hD1 _ _ hh fun t0 e=>kA

theorem kT {k:Nat} {p0:List GOcc} {r:List GOcc} (hh:ck.f k p0=some r):ah P 99 [tA (qGOcc p0)] [hA] (oA 3 (qGOccO r)):=by
 unfold ck.f at hh
 refine gp [(2,none)] [.own] [.skip] Tryz.func99 ?_
 unhygienic intros
 cbv
 obtain⟨o,j,hq1⟩:=ag hh
 refine lg hC (U2 (ck.l0 k p0))
  (fun⟨b,d⟩=>⟨[(0,tA (qGOcc p0)),(3,rA (5,0) (len (qGOccO b))),(4,iA d)],[((5,0),.arr 1 3 (qGOccO b))]⟩)
  (fun(c:List GOcc)=>⟨[(3,rA (5,0) (len (qGOccO c)))],[((5,0),.arr 1 3 (qGOccO c))]⟩) (fun x=>x) (.exit 0)
  (i0:=(_,_)) j (fun⟨t0,t1⟩ e=>kA) ?_ ?_
 rintro c hx
 subst o
 have hh:=hq1
 cbv
 exact Eb
 rintro n ⟨b,d⟩ p s hh hN1 hD1 hQ1
 dsimp only[U2] at hh
 unfold ck.l0 at hh
 cbv
 have c1:=@gQ
 exact D

theorem zr {k:Nat} {p0:GPair} {r:GPair} (hh:mH.f k p0=some r):ah P 207 [.agg [tA (qGOcc p0.Left),tA (qGOcc p0.Right)]] [hA] (.agg [oA 3 (qGOccO r.Left),oA 3 (qGOccO r.Right)]):=by
 obtain⟨p0a,p0b⟩:=p0
 unfold mH.f at hh
 refine gp [(2,some 171)] [.own] [.skip] Tryz.func207 ?_
 unhygienic intros
 cbv
 have c1:=@kT
 exact D

theorem zY {k:Nat} {p0:GSpan} {r:GSpan} (hh:mJ.f k p0=some r):ah P 208 [.agg [tA (qGOcc p0.Left),tA (qGOcc p0.Mid)]] [hA] (.agg [oA 3 (qGOccO r.Left),oA 3 (qGOccO r.Mid)]):=by
 obtain⟨p0a,p0b⟩:=p0
 unfold mJ.f at hh
 refine gp [(2,some 173)] [.own] [.skip] Tryz.func208 ?_
 unhygienic intros
 cbv
 have c1:=@kT
 exact D

theorem zz {k:Nat} {p0:GGraph} {r:GGraph} (hh:dP.f k p0=some r):ah P 165 [.agg [iA p0.Mode,tA (qGNode p0.Nodes),iA p0.Seen,iA p0.Now,bA p0.Full]] [hA] (.agg [iA r.Mode,oA 10 (qGNodeS r.Nodes),iA r.Seen,iA r.Now,bA r.Full]):=by
 obtain⟨p0a,p0b,p0c,p0d,p0e⟩:=p0
 unfold dP.f at hh
 refine gp [(2,some 91)] [.own] [.skip] Tryz.func165 ?_
 unhygienic intros
 cbv
 obtain⟨Q,I,hq1⟩:=ag hh
 refine lg hC (U2 (dP.l0 k (⟨p0a,p0b,p0c,p0d,p0e⟩:GGraph)))
  (fun⟨c,j⟩=>⟨[(1,mA (1,0)),(2,mA (2,0)),(3,mA (3,0)),(4,iA j)],[((1,0),.box 1 [iA p0a,tA (qGNode p0b),iA p0c,iA p0d,bA p0e]),((2,0),.box 1 [iA 0,zA,iA 0,iA 0,bA false]),((3,0),.box 1 [iA p0a,rA (3,51) (len (qGNodeS c)),iA p0c,iA p0d,bA p0e]),((3,51),.arr 1 10 (qGNodeS c))]⟩)
  (fun(d:List GNode)=>⟨[(2,mA (2,0)),(3,mA (3,0))],[((2,0),.box 1 [iA 0,zA,iA 0,iA 0,bA false]),((3,0),.box 1 [iA p0a,rA (3,51) (len (qGNodeS d)),iA p0c,iA p0d,bA p0e]),((3,51),.arr 1 10 (qGNodeS d))]⟩) (fun x=>x) (.exit 0)
  (i0:=(_,_)) I (fun⟨t0,t1⟩ e=>kA) ?_ ?_
 rintro d hx
 subst Q
 have hh:=hq1
 cbv
 exact Eb
 rintro n ⟨c,j⟩ S T hh hN1 hD1 hQ1
 dsimp only[U2] at hh
 unfold dP.l0 at hh
 cbv
 refine bcs (fun b=>?_) (fun b=>?_)
 replace hh:=ifT hh b
 try rw[b]
 cbv
 obtain⟨J,hh⟩:=ae hh
 obtain⟨⟨p,s,t,u,⟨v,w⟩,⟨y,z⟩,A,B⟩,K,hh⟩:=ag hh
 try dsimp only at hh
 refine⟨[iA p,iA s,iA t,tA (qInt u),tA (qGOcc v),tA (qGOcc w),tA (qGOcc y),tA (qGOcc z),tA (qGOcc A),iA B],Nb J,Gb K,?_⟩
 cbv
 obtain⟨o,hh⟩:=ae hh
 try dsimp only at o
 refine⟨⟨Ab,Ab⟩,?_⟩
 refine⟨⟨Ob,Wb o⟩,?_⟩
 obtain⟨⟨C,F⟩,L,hh⟩:=ag hh
 try dsimp only at hh
 have fc:=ah.frzIn (r':=.agg [oA 3 (qGOcc C),oA 3 (qGOcc F)]) (zr hQ L) (by cases hQ;simp)
 try dsimp only at fc
 refine ak hF fc ?_
 cbv
 obtain⟨⟨G,H⟩,M,hh⟩:=ag hh
 try dsimp only at hh
 have fc:=ah.frzIn (r':=.agg [oA 3 (qGOcc G),oA 3 (qGOcc H)]) (zY hQ M) (by cases hQ;simp)
 try dsimp only at fc
 refine ak hF fc ?_
 cbv
 obtain⟨N,O,hh⟩:=ag hh
 refine ak hF (ah.frzIn (r':=oA 3 (qGOcc N)) (kT hQ O) (by cases hQ;simp)) ?_
 cbv
 refine⟨Ob,?_⟩
 obtain⟨R,hh⟩:=ae hh
 exact D
 replace hh:=ifF hh b
 try rw[b]
 cbv
 exact hD1 _ _ hh fun t0 e=>kA

theorem eQ {k:Nat} {p0:GEng} {r:GEng} (hh:bL.f k p0=some r):ah P 102 [.agg [tA (qGRule p0.Rules),tA (qGGraph p0.Graphs),tA (qGEv p0.Events),tA (qInt p0.Keys),tA (qGFire p0.Fired)]] [hA] (.agg [tA (qGRule r.Rules),oA 5 (qGGraphS2 r.Graphs),oA 3 (qGEv r.Events),oA 1 (qInt r.Keys),oA 4 (qGFire r.Fired)]):=by
 obtain⟨p0a,p0b,p0c,p0d,p0e⟩:=p0
 unfold bL.f at hh
 refine gp [(2,some 53)] [.own] [.skip] Tryz.func102 ?_
 unhygienic intros
 cbv
 obtain⟨o,u,hh⟩:=ag hh
 refine ak hF (ah.frz (r':=tA (qGRule o)) (rL hQ u) (by cases hQ;simp)) ?_
 cbv
 obtain⟨p,hh⟩:=ae hh
 try dsimp only at p
 refine⟨⟨Ab,Ab⟩,?_⟩
 refine⟨⟨Ob,Wb p⟩,?_⟩
 obtain⟨s,hh⟩:=ae hh
 try dsimp only at s
 refine⟨⟨Ab,Ab⟩,?_⟩
 refine⟨⟨Ob,Wb s⟩,?_⟩
 obtain⟨d,v,hh⟩:=ag hh
 refine ak hF (rB hQ v) ?_
 cbv
 obtain⟨w,t,hq1⟩:=ag hh
 refine lg hC (U2 (bL.l0 k (⟨p0a,p0b,p0c,p0d,p0e⟩:GEng)))
  (fun⟨b,j⟩=>⟨[(1,mA (1,0)),(2,mA (2,0)),(3,mA (3,0)),(4,iA j)],[((1,0),.box 1 [tA (qGRule p0a),tA (qGGraph p0b),tA (qGEv p0c),tA (qInt p0d),tA (qGFire p0e)]),((2,0),.box 1 [zA,zA,zA,zA,zA]),((3,0),.box 1 [tA (qGRule o),rA (3,51) (len (qGGraphS2 b)),rA (11,0) (len (qGEv (([]:List GEv)++p0c))),rA (15,0) (len (qInt (([]:List Int)++p0d))),rA (18,0) (len (qGFire d))]),((3,51),.arr 1 5 (qGGraphS2 b)),((11,0),.arr 1 3 (qGEv (([]:List GEv)++p0c))),((15,0),.arr 1 1 (qInt (([]:List Int)++p0d))),((18,0),.arr 1 4 (qGFire d))]⟩)
  (fun(c:List GGraph)=>⟨[(2,mA (2,0)),(3,mA (3,0))],[((2,0),.box 1 [zA,zA,zA,zA,zA]),((3,0),.box 1 [tA (qGRule o),rA (3,51) (len (qGGraphS2 c)),rA (11,0) (len (qGEv (([]:List GEv)++p0c))),rA (15,0) (len (qInt (([]:List Int)++p0d))),rA (18,0) (len (qGFire d))]),((3,51),.arr 1 5 (qGGraphS2 c)),((11,0),.arr 1 3 (qGEv (([]:List GEv)++p0c))),((15,0),.arr 1 1 (qInt (([]:List Int)++p0d))),((18,0),.arr 1 4 (qGFire d))]⟩) (fun x=>x) (.exit 0)
  (i0:=(_,_)) t (fun⟨t0,t1⟩ e=>kA) ?_ ?_
 rintro c hx
 subst w
 have hh:=hq1
 cbv
 exact Eb
 rintro n ⟨b,j⟩ y z hh hN1 hD1 hQ1
 dsimp only[U2] at hh
 unfold bL.l0 at hh
 cbv
 have c1:=@zz
 exact D

theorem uh {k:Nat} {p0:List GRule} {r:List Int} (hh:aZ.f k p0=some r):ah P 166 [tA (qGRule p0)] [hA] (oA 1 (qInt r)):=by
 unfold aZ.f at hh
 refine gp [(2,none)] [.own] [.skip] Tryz.func166 ?_
 unhygienic intros
 cbv
 obtain⟨w,A,hh⟩:=ag hh
 refine ak hF (lY hQ A) ?_
 cbv
 replace hh:=bU hh
 rcases hh with⟨v,hh⟩|⟨v,hh⟩
 have d:w=true:=Tb v
 have g:=d;cbv at g;try rw[d]
 try rw[g]
 cbv
 obtain⟨B,y,hq1⟩:=ag hh
 refine lg hC (U2 (aZ.l2 k p0))
  (fun⟨j,b⟩=>⟨[(0,tA (qGRule p0)),(3,rA (6,0) (len (qInt j))),(4,iA b)],[((6,0),.arr 1 1 (qInt j))]⟩)
  (fun(o:List Int)=>⟨[(3,rA (6,0) (len (qInt o)))],[((6,0),.arr 1 1 (qInt o))]⟩) (fun x=>x) (.exit 0)
  (i0:=(_,_)) y (fun⟨t0,t1⟩ e=>kA) ?_ ?_
 rintro o hx
 subst B
 have hh:=hq1
 cbv
 exact Eb
 rintro n ⟨j,b⟩ F G hh hN1 hD1 hQ1
 dsimp only[U2] at hh
 unfold aZ.l2 at hh
 cbv
 replace hh:=bU hh
 rcases hh with⟨p,hh⟩|⟨p,hh⟩
 have c:(lt b 0)=true:=Tb p
 have g:=c;cbv at g;try rw[c]
 try rw[g]
 cbv
 exact hD1 _ _ hh fun t0 e=>kA
 have c:(lt b 0)=false:=Fb p
 have g:=c;cbv at g;try rw[c]
 try rw[g]
 cbv
 obtain⟨C,z,hq2⟩:=ag hh
 refine lg hC (U2 (aZ.l3 k p0 b))
  (fun⟨s,u⟩=>⟨[(0,tA (qGRule p0)),(3,rA (6,0) (len (qInt s))),(4,iA b),(5,iA u)],[((6,0),.arr 1 1 (qInt s))]⟩)
  (fun(t:List Int)=>⟨[(0,tA (qGRule p0)),(3,rA (6,0) (len (qInt t))),(4,iA b)],[((6,0),.arr 1 1 (qInt t))]⟩) (fun x=>x) (.exit 2)
  (i0:=(_,_)) z (fun⟨t0,t1⟩ e=>kA) ?_ ?_
 rintro t hx
 subst C
 have hh:=hq2
 cbv
 exact hN1 (_,_) _ hh fun⟨t0,t1⟩ e=>kA
 rintro n ⟨s,u⟩ H I hh hN2 hD2 hQ2
 dsimp only[U2] at hh
 unfold aZ.l3 at hh
 cbv
 exact D
 have d:w=false:=Fb v
 have g:=d;cbv at g;try rw[d]
 try rw[g]
 cbv
 exact Eb

theorem sK {p0:Int} {p1:Int} {r:Int} (hh:jb.f p0 p1=some r):ah P 205 [iA p0,iA p1] [hA,hA] (iA r):=by
 unfold jb.f at hh
 refine gp [(4,none)] [.own] [.skip,.skip] Tryz.func205 ?_
 unhygienic intros
 cbv
 exact D

theorem zp {k:Nat} {p0:GGraph} {p1:Int} {r:Int} (hh:bB.f k p0 p1=some r):ah P 159 [.agg [iA p0.Mode,tA (qGNode p0.Nodes),iA p0.Seen,iA p0.Now,bA p0.Full],iA p1] [hA,hA] (iA r):=by
 obtain⟨p0a,p0b,p0c,p0d,p0e⟩:=p0
 unfold bB.f at hh
 refine gp [(4,none)] [.own] [.skip,.skip] Tryz.func159 ?_
 unhygienic intros
 cbv
 obtain⟨v,t,hq1⟩:=ag hh
 refine lg hC (U2 (bB.l2 k (⟨p0a,p0b,p0c,p0d,p0e⟩:GGraph)))
  (fun⟨p,b⟩=>⟨[(1,iA p),(2,mA (2,0)),(5,iA b)],[((2,0),.box 1 [iA p0a,tA (qGNode p0b),iA p0c,iA p0d,bA p0e])]⟩)
  (fun(s:Int)=>⟨[(1,iA s)],[]⟩) (fun x=>x) (.exit 0)
  (i0:=(_,_)) t (fun⟨t0,t1⟩ e=>kA) ?_ ?_
 rintro s hx
 subst v
 have hh:=hq1
 cbv
 exact Eb
 rintro n ⟨p,b⟩ y z hh hN1 hD1 hQ1
 dsimp only[U2] at hh
 unfold bB.l2 at hh
 cbv
 refine bcs (fun c=>?_) (fun c=>?_)
 replace hh:=ifT hh c
 try rw[c]
 cbv
 obtain⟨w,u,hq2⟩:=ag hh
 refine lg hC (U2 (bB.l3 k (⟨p0a,p0b,p0c,p0d,p0e⟩:GGraph) b))
  (fun⟨d,j⟩=>⟨[(1,iA d),(2,mA (2,0)),(5,iA b),(6,iA j)],[((2,0),.box 1 [iA p0a,tA (qGNode p0b),iA p0c,iA p0d,bA p0e])]⟩)
  (fun(o:Int)=>⟨[(1,iA o),(2,mA (2,0)),(5,iA b)],[((2,0),.box 1 [iA p0a,tA (qGNode p0b),iA p0c,iA p0d,bA p0e])]⟩) (fun x=>x) (.exit 2)
  (i0:=(_,_)) u (fun⟨t0,t1⟩ e=>kA) ?_ ?_
 rintro o hx
 subst w
 have hh:=hq2
 cbv
 exact hN1 (_,_) _ hh fun⟨t0,t1⟩ e=>kA
 rintro n ⟨d,j⟩ A B hh hN2 hD2 hQ2
 dsimp only[U2] at hh
 unfold bB.l3 at hh
 cbv
 have c1:=@sK
 exact D
 replace hh:=ifF hh c
 try rw[c]
 cbv
 exact hD1 _ _ hh fun t0 e=>kA
theorem qN {k:Nat} {p0:GGraph} {p1:Int} {r:Int} (hh:bB.f k p0 p1=some r):ah P 159 [.agg [iA p0.Mode,oA 10 (qGNodeS p0.Nodes),iA p0.Seen,iA p0.Now,bA p0.Full],iA p1] [.agg [iA p0.Mode,oA 10 (qGNodeS p0.Nodes),iA p0.Seen,iA p0.Now,bA p0.Full],hA] (iA r):=by
  cases hQ;exact(zp .mk hh).lend (rfl) (.lend (by simp) (.same rfl .nil))

theorem nq {k:Nat} {p0:GOcc} {p1:GOcc} {r:Bool} (hh:ii.f k p0 p1=some r):ah P 272 [.agg [iA p0.From,iA p0.To,tA (qInt p0.Ids)],.agg [iA p1.From,iA p1.To,tA (qInt p1.Ids)]] [hA,hA] (bA r):=by
 obtain⟨p0a,p0b,p0c⟩:=p0
 obtain⟨p1a,p1b,p1c⟩:=p1
 unfold ii.f at hh
 refine gp [(4,none)] [.own] [.skip,.skip] Tryz.func272 ?_
 unhygienic intros
 cbv
 have c1:=@rV
 exact D
end Go.Proofs.YtlbnmldopjadoaaGreat
