/- The functions of this program do what the plain ones do. -/
import Derived.Test.YtlbnmldopjadoaaGreatC6
namespace Go.Proofs.YtlbnmldopjadoaaGreat
open Go Go.Vm
set_option linter.unusedVariables false
set_option maxHeartbeats 4000000
set_option maxRecDepth 4000
variable {qIu8:Vm.RW Int} {qGEx:Vm.RW GEx} {qGRule:Vm.RW GRule} {qStr:Vm.RW ByteArray} {qInt:Vm.RW Int} {qGExO:Vm.RW GEx} {qGOcc:Vm.RW GOcc} {qGNode:Vm.RW GNode} {qGNodeS:Vm.RW GNode} {qGGraphS2:Vm.RW GGraph} {qGGraph:Vm.RW GGraph} {qGEv:Vm.RW GEv} {qGFire:Vm.RW GFire} {qGOccO:Vm.RW GOcc} {qLGOcc:Vm.RW (List GOcc)} {qBool:Vm.RW Bool} {qGGraphS:Vm.RW GGraph} {qLInt:Vm.RW (List Int)} (hQ:EQ qIu8 qGEx qGRule qStr qInt qGExO qGOcc qGNode qGNodeS qGGraphS2 qGGraph qGEv qGFire qGOccO qLGOcc qBool qGGraphS qLInt)
include hQ
theorem Ci {k:Nat} {p0:Gl14Rd} {r:GEng×Gl14Rd} (hh:er.f k p0=some r):ah P 100 [.obox [tA (qIu8 p0.b),iA p0.p]] [.obox [tA (qIu8 r.2.b),iA r.2.p]] (.agg [tA (qGRule r.1.Rules),oA 5 (qGGraphS2 r.1.Graphs),oA 3 (qGEv r.1.Events),oA 1 (qInt r.1.Keys),tA (qGFire r.1.Fired)]):=by
 obtain⟨p0a,p0b⟩:=p0
 unfold er.f at hh
 refine gq [5,19] [] [] [(2,some 53)] [.own] [.own] Tryz.func100 ?_
 unhygienic intros
 cbv
 obtain⟨⟨IU,⟨IG,II⟩⟩,h1,hh⟩:=ag hh
 try dsimp only at hh
 have fc:=xZ hQ h1
 try dsimp only at fc
 refine ak hF fc ?_
 cbv
 obtain⟨⟨Jb,Jc,Jd,Je,Jf⟩,h4,hh⟩:=ag hh
 try dsimp only at hh
 refine⟨Ob,?_⟩
 have fc:=yG hQ h4
 try dsimp only at fc
 refine ak hF fc ?_
 cbv
 obtain⟨⟨I1,⟨IJ,IL⟩⟩,h7,hh⟩:=ag hh
 try dsimp only at hh
 have fc:=bV hQ h7
 try dsimp only at fc
 refine ak hF fc ?_
 cbv
 obtain⟨o1,R,hq1⟩:=ag hh
 refine lgq [5,19] [] [] hC (U8 (er.l0 k))
  (fun⟨J,K,L,v,w,y,z,M⟩=>⟨[(0,mA (0,0)),(2,mA (2,0)),(3,mA (3,0)),(4,iA M),(1000000,mA (0,0))],[((0,0),.box 1 [tA (qIu8 J),iA K]),((2,0),.box 1 [zA,zA,zA,zA,zA]),((3,0),.box 1 [tA (qGRule L),rA (10,0) (len (qGGraphS2 v)),rA (10,1) (len (qGEv w)),rA (10,2) (len (qInt y)),rA (10,3) (len (qGFire z))]),((10,0),.arr 1 5 (qGGraphS2 v)),((10,1),.arr 1 3 (qGEv w)),((10,2),.arr 1 1 (qInt y)),((10,3),.arr 1 4 (qGFire z))]⟩)
  (fun⟨N,O,Q,A,B,C,F⟩=>⟨[(0,mA (0,0)),(2,mA (2,0)),(3,mA (3,0)),(1000000,mA (0,0))],[((0,0),.box 1 [tA (qIu8 N),iA O]),((2,0),.box 1 [zA,zA,zA,zA,zA]),((3,0),.box 1 [tA (qGRule Q),rA (10,0) (len (qGGraphS2 A)),rA (10,1) (len (qGEv B)),rA (10,2) (len (qInt C)),rA (10,3) (len (qGFire F))]),((10,0),.arr 1 5 (qGGraphS2 A)),((10,1),.arr 1 3 (qGEv B)),((10,2),.arr 1 1 (qInt C)),((10,3),.arr 1 4 (qGFire F))]⟩) (fun x=>x) (.exit 0)
  (i0:=(_,_,_,_,_,_,_,_)) R (fun⟨t0,t1,t2,t3,t4,t5,t6,t7⟩ e=>kA) ?_ ?_
 rintro⟨N,O,Q,A,B,C,F⟩ hx
 subst o1
 have hh:=hq1
 cbv
 obtain⟨⟨IP,⟨S,T⟩⟩,U,hh⟩:=ag hh
 try dsimp only at hh
 have fc:=bV hQ U
 try dsimp only at fc
 refine ak hF fc ?_
 cbv
 refine bcs (fun c=>?_) (fun c=>?_)
 replace hh:=ifT hh c
 try rw[c]
 cbv
 obtain⟨⟨IR,⟨V,W⟩⟩,X,hh⟩:=ag hh
 try dsimp only at hh
 refine⟨Ob,?_⟩
 have fc:=dF hQ X
 try dsimp only at fc
 refine ak hF fc ?_
 cbv
 obtain⟨Y,hh⟩:=ae hh
 obtain⟨Z,hh⟩:=ae hh
 refine⟨Nb Y,Mb Z,?_⟩
 obtain⟨eS,HP,hh⟩:=ag hh
 refine⟨[iA eS],Gb HP,?_⟩
 cbv
 refine eK hC (bH [5,19] [] []) mixed [(10,3)] ?_
 cbv
 exact Eb
 replace hh:=ifF hh c
 try rw[c]
 cbv
 refine bcs (fun d=>?_) (fun d=>?_)
 replace hh:=ifT hh d
 try rw[d]
 cbv
 refine eK hC (bH [5,19] [] []) mixed [(10,3)] ?_
 cbv
 refine⟨5,?_⟩
 cbv
 exact Eb
 replace hh:=ifF hh d
 try rw[d]
 cbv
 refine bcs (fun j=>?_) (fun j=>?_)
 replace hh:=ifT hh j
 try rw[j]
 cbv
 obtain⟨Ia,hh⟩:=ae hh
 refine⟨⟨Ob,Ab⟩,?_⟩
 refine⟨⟨Ob,Wb Ia⟩,?_⟩
 refine eK hC (bH [5,19] [] []) mixed [(10,3)] ?_
 cbv
 exact Eb
 replace hh:=ifF hh j
 try rw[j]
 cbv
 refine bcs (fun o=>?_) (fun o=>?_)
 replace hh:=ifT hh o
 try rw[o]
 cbv
 obtain⟨⟨IT,⟨Ic,Io⟩⟩,Is,hh⟩:=ag hh
 try dsimp only at hh
 have fc:=bV hQ Is
 try dsimp only at fc
 refine ak hF fc ?_
 cbv
 obtain⟨⟨⟨G,H,I⟩,⟨It,Iv⟩⟩,Iw,hh⟩:=ag hh
 try dsimp only at hh
 have fc:=ah.frz (r':=.agg [iA G,iA H,tA (qInt I)]) (Bg hQ Iw) (by cases hQ;simp)
 try dsimp only at fc
 refine ak hF fc ?_
 cbv
 obtain⟨Ix,hh⟩:=ae hh
 refine⟨⟨Ob,Ab⟩,?_⟩
 refine⟨⟨Ob,Wb Ix⟩,?_⟩
 refine eK hC (bH [5,19] [] []) mixed [(63,0)] ?_
 cbv
 exact Eb
 replace hh:=ifF hh o
 try rw[o]
 cbv
 refine bcs (fun s=>?_) (fun s=>?_)
 replace hh:=ifT hh s
 try rw[s]
 cbv
 refine bcs (fun t=>?_) (fun t=>?_)
 replace hh:=ifT hh t
 try rw[t]
 cbv
 obtain⟨Iy,hh⟩:=ae hh
 obtain⟨Iz,hh⟩:=ae hh
 obtain⟨IC,hh⟩:=ae hh
 refine⟨⟨Nb Iy,Nb Iz,Nb IC⟩,?_⟩
 refine eK hC (bH [5,19] [] []) mixed [(10,3)] ?_
 cbv
 exact Eb
 replace hh:=ifF hh t
 try rw[t]
 cbv
 refine eK hC (bH [5,19] [] []) mixed [(10,3)] ?_
 cbv
 exact Eb
 replace hh:=ifF hh s
 try rw[s]
 cbv
 refine eK hC (bH [5,19] [] []) mixed [(10,3)] ?_
 cbv
 exact Eb
 rintro n ⟨J,K,L,v,w,y,z,M⟩ N1 D1 hh hN1 hD1 hQ1
 dsimp only[U8] at hh
 unfold er.l0 at hh
 cbv
 refine bcs (fun u=>?_) (fun u=>?_)
 replace hh:=ifT hh u
 try rw[u]
 cbv
 refine v8 hC (bH [5,19] [] []) mixed [(10,0),(10,1),(10,2),(10,3)] ?_
 cbv
 have c1:=@bV
 have c2:=@dF
 have c3:=@qf
 exact D
 replace hh:=ifF hh u
 try rw[u]
 cbv
 exact D

theorem tp {k:Nat} {p0:List Int} {r:GEng×Int×Int×Int} (hh:gK.f k p0=some r):ah P 43 [tA (qIu8 p0)] [hA] (.tup [.agg [tA (qGRule r.1.Rules),oA 5 (qGGraphS2 r.1.Graphs),oA 3 (qGEv r.1.Events),oA 1 (qInt r.1.Keys),tA (qGFire r.1.Fired)],iA r.2.1,iA r.2.2.1,iA r.2.2.2]):=by
 unfold gK.f at hh
 refine gp [(2,some 53),(3,none),(4,none),(5,none)] [.own,.own,.own,.own] [.skip] Tryz.func43 ?_
 unhygienic intros
 cbv
 have c1:=@xG
 have c2:=@Ci
 have c3:=@dF
 exact D

theorem dC {p0:Int} {p1:Int} {p2:Int} {r:Bool} (hh:bw.f p0 p1 p2=some r):ah P 81 [iA p0,iA p1,iA p2] [hA,hA,hA] (bA r):=by
 unfold bw.f at hh
 refine gp [(6,none)] [.own] [.skip,.skip,.skip] Tryz.func81 ?_
 unhygienic intros
 cbv
 exact D

theorem zB {k:Nat} {p0:ByteArray} {r:Bool} (hh:dO.f k p0=some r):ah P 80 [sA p0] [hA] (bA r):=by
 unfold dO.f at hh
 refine gp [(2,none)] [.own] [.skip] Tryz.func80 ?_
 unhygienic intros
 cbv
 obtain⟨d,c,hq1⟩:=ag hh
 refine lg hC (dO.l0 k p0)
  (fun b=>⟨[(0,sA p0),(5,iA (cast (ssize p0))),(6,iA b)],[]⟩)
  (fun(_:Unit)=>⟨[(0,sA p0)],[]⟩) .ok (.exit 0)
  (i0:=_) c (fun t0 e=>kA) ?_ ?_
 rintro _ hx
 subst d
 have hh:=hq1
 cbv
 have c1:=@dC
 exact D
 rintro n b j o hh hN1 hD1 hQ1
 unfold dO.l0 at hh
 cbv
 exact D

theorem rG {p0:Int} {r:Bool} (hh:eJ.f p0=some r):ah P 58 [iA p0] [hA] (bA r):=by
 unfold eJ.f at hh
 refine gp [(2,none)] [.own] [.skip] Tryz.func58 ?_
 unhygienic intros
 cbv
 have c1:=@dC
 exact D

theorem FV:∀k:Nat,(∀{p0:GEx} {r:Int×Int},bT.f k p0=some r→ah P 121 [.agg [iA p0.Kind,iA p0.Sym,iA p0.N,tA (qGEx p0.Kids)]] [hA] (.tup [iA r.1,iA r.2])):=by
  intro k
  induction k using Nat.strongRecOn with
  |_ k ih=>
  · intro p0 r hh
    cases k with
    |zero=>unfold bT.f at hh;cases hh
    |succ k=>
    obtain⟨p0a,p0b,p0c,p0d⟩:=p0
    unfold bT.f at hh
    refine gp [(2,none),(3,none)] [.own,.own] [.skip] Tryz.func121 ?_
    unhygienic intros
    cbv
    obtain⟨G,A,hq1⟩:=ag hh
    refine lg hC (U3 (bT.l0 k (bT.f k) (⟨p0a,p0b,p0c,p0d⟩:GEx)))
     (fun⟨p,d,s⟩=>⟨[(4,iA p),(5,iA d),(11,tA (qGEx p0d)),(12,iA (cast (len (qGEx p0d)))),(13,iA s)],[]⟩)
     (fun⟨t,u⟩=>⟨[(4,iA t),(5,iA u)],[]⟩) (fun x=>x) (.exit 0)
     (i0:=(_,_,_)) A (fun⟨t0,t1,t2⟩ e=>kA) ?_ ?_
    rintro⟨t,u⟩ hx
    subst G
    have hh:=hq1
    cbv
    exact Eb
    rintro n ⟨p,d,s⟩ H I hh hN1 hD1 hQ1
    dsimp only[U3] at hh
    unfold bT.l0 at hh
    cbv
    refine bcs (fun b=>?_) (fun b=>?_)
    replace hh:=ifT hh b
    try rw[b]
    cbv
    obtain⟨B,hh⟩:=ae hh
    obtain⟨⟨v,w,y,z⟩,C,hh⟩:=ag hh
    try dsimp only at hh
    refine⟨[iA v,iA w,iA y,tA (qGEx z)],Nb B,Gb C,?_⟩
    cbv
    obtain⟨⟨F,j⟩,D,hh⟩:=ag hh
    try dsimp only at hh
    refine ak hF ((ih k (Nat.lt_succ_self k)) D) ?_
    cbv
    replace hh:=bU hh
    rcases hh with⟨o,hh⟩|⟨o,hh⟩
    have c:(lt d (wrap .i64 (add j 1)))=true:=Tb o
    have g:=c;cbv at g;try rw[c]
    try rw[g]
    cbv
    exact hN1 (_,_,_) _ hh fun⟨t0,t1,t2⟩ e=>kA
    have c:(lt d (wrap .i64 (add j 1)))=false:=Fb o
    have g:=c;cbv at g;try rw[c]
    try rw[g]
    cbv
    exact hN1 (_,_,_) _ hh fun⟨t0,t1,t2⟩ e=>kA
    replace hh:=ifF hh b
    try rw[b]
    cbv
    exact hD1 (_,_) _ hh fun⟨t0,t1⟩ e=>kA
theorem xH {k:Nat} {p0:GEx} {r:Int×Int} (hh:bT.f k p0=some r):ah P 121 [.agg [iA p0.Kind,iA p0.Sym,iA p0.N,tA (qGEx p0.Kids)]] [hA] (.tup [iA r.1,iA r.2]):=(FV hQ k) hh


theorem rF {p0:Int} {r:Bool} (hh:ib.f p0=some r):ah P 176 [iA p0] [hA] (bA r):=by
 unfold ib.f at hh
 refine gp [(2,none)] [.own] [.skip] Tryz.func176 ?_
 unhygienic intros
 cbv
 have c1:=@dC
 exact D

theorem uE {p0:Int} {r:Int} (hh:mS.f p0=some r):ah P 177 [iA p0] [hA] (iA r):=by
 unfold mS.f at hh
 refine gp [(2,none)] [.own] [.skip] Tryz.func177 ?_
 unhygienic intros
 cbv
 obtain⟨b,hh⟩:=ae hh
 exact D

theorem lV {p0:Int} {r:Bool} (hh:eM.f p0=some r):ah P 51 [iA p0] [hA] (bA r):=by
 unfold eM.f at hh
 refine gp [(2,none)] [.own] [.skip] Tryz.func51 ?_
 unhygienic intros
 cbv
 have c1:=@dC
 exact D

theorem jA {k:Nat} {g1:GEx→Option Bool} (hg1:∀{y0:GEx} {r:Bool},g1 y0=some r→ah P 179 [.agg [iA y0.Kind,iA y0.Sym,iA y0.N,tA (qGEx y0.Kids)]] [hA] (bA r)) {p0:List GEx} {r:Int} (hh:bN.f g1 k p0=some r):ah P 213 [tA (qGEx p0),.clo 179 []] [hA,hA] (iA r):=by
 unfold bN.f at hh
 refine gp [(4,none)] [.own] [.skip,.skip] Tryz.func213 ?_
 unhygienic intros
 cbv
 obtain⟨d,c,hq1⟩:=ag hh
 refine lg hC (bN.l0 k g1 p0)
  (fun b=>⟨[(0,tA (qGEx p0)),(1,.clo 179 []),(7,iA (cast (len (qGEx p0)))),(8,iA b)],[]⟩)
  (fun(_:Unit)=>⟨[],[]⟩) .ok (.exit 0)
  (i0:=_) c (fun t0 e=>kA) ?_ ?_
 rintro _ hx
 subst d
 have hh:=hq1
 cbv
 exact Eb
 rintro n b j o hh hN1 hD1 hQ1
 unfold bN.l0 at hh
 cbv
 exact D

theorem iO {k:Nat} {g1:GEx→Option Bool} (hg1:∀{y0:GEx} {r:Bool},g1 y0=some r→ah P 179 [.agg [iA y0.Kind,iA y0.Sym,iA y0.N,tA (qGEx y0.Kids)]] [hA] (bA r)) {p0:List GEx} {r:Bool} (hh:cn.f g1 k p0=some r):ah P 178 [tA (qGEx p0),.clo 179 []] [hA,hA] (bA r):=by
 unfold cn.f at hh
 refine gp [(4,none)] [.own] [.skip,.skip] Tryz.func178 ?_
 unhygienic intros
 cbv
 have e1:=@jA
 exact D

theorem Gq:∀k:Nat,(∀{p0:GEx} {r:Bool},dE.f k p0=some r→ah P 179 [.agg [iA p0.Kind,iA p0.Sym,iA p0.N,tA (qGEx p0.Kids)]] [hA] (bA r))∧(∀{p0:GEx} {r:Bool},eU.f k p0=some r→ah P 122 [.agg [iA p0.Kind,iA p0.Sym,iA p0.N,tA (qGEx p0.Kids)]] [hA] (bA r)):=by
  intro k
  induction k using Nat.strongRecOn with
  |_ k ih=>
  refine⟨?_,?_⟩
  · intro p0 r hh
    cases k with
    |zero=>unfold dE.f at hh;cases hh
    |succ k=>
    obtain⟨p0a,p0b,p0c,p0d⟩:=p0
    unfold dE.f at hh
    refine gp [(2,none)] [.own] [.skip] Tryz.func179 ?_
    unhygienic intros
    cbv
    have d1:=@And.right _ _ (ih k (Nat.lt_succ_self k))
    exact D
  · intro p0 r hh
    cases k with
    |zero=>unfold eU.f at hh;cases hh
    |succ k=>
    obtain⟨p0a,p0b,p0c,p0d⟩:=p0
    unfold eU.f at hh
    refine gp [(2,none)] [.own] [.skip] Tryz.func122 ?_
    unhygienic intros
    cbv
    have c1:=@rF
    have c2:=@uE
    have c3:=@lV
    have c4:=@dC
    have e1:=@iO
    have d1:=@And.left _ _ (ih k (Nat.lt_succ_self k))
    exact D
theorem vL {k:Nat} {p0:GEx} {r:Bool} (hh:eU.f k p0=some r):ah P 122 [.agg [iA p0.Kind,iA p0.Sym,iA p0.N,tA (qGEx p0.Kids)]] [hA] (bA r):=(Gq hQ k).2 hh



theorem CC {k:Nat} {p0:GEx} {r:Bool} (hh:m8.f k p0=some r):ah P 55 [.agg [iA p0.Kind,iA p0.Sym,iA p0.N,tA (qGEx p0.Kids)]] [hA] (bA r):=by
 obtain⟨p0a,p0b,p0c,p0d⟩:=p0
 unfold m8.f at hh
 refine gp [(2,none)] [.own] [.skip] Tryz.func55 ?_
 unhygienic intros
 cbv
 have c1:=@xH
 have c2:=@vL
 exact D

theorem zQ {k:Nat} {p0:GRule} {r:Bool} (hh:kS.f k p0=some r):ah P 33 [.agg [sA p0.Name,iA p0.Pri,iA p0.Mode,iA p0.Ex.Kind,iA p0.Ex.Sym,iA p0.Ex.N,tA (qGEx p0.Ex.Kids),iA p0.Low,iA p0.High,iA p0.Key,iA p0.Add,iA p0.Raise]] [hA] (bA r):=by
 obtain⟨p0a,p0b,p0c,⟨p0d,p0e,p0f,p0g⟩,p0h,p0i,p0j,p0k,p0l⟩:=p0
 unfold kS.f at hh
 refine gp [(2,none)] [.own] [.skip] Tryz.func33 ?_
 unhygienic intros
 cbv
 have c1:=@zB
 have c2:=@dC
 have c3:=@rG
 have c4:=@CC
 exact D

theorem uV {p0:GRule} {c0:GRule} {r:Bool} (hh:kt.f p0 c0=some r):ah P 86 [.agg [sA p0.Name,iA p0.Pri,iA p0.Mode,iA p0.Ex.Kind,iA p0.Ex.Sym,iA p0.Ex.N,tA (qGEx p0.Ex.Kids),iA p0.Low,iA p0.High,iA p0.Key,iA p0.Add,iA p0.Raise],.iptr [sA c0.Name,iA c0.Pri,iA c0.Mode,iA c0.Ex.Kind,iA c0.Ex.Sym,iA c0.Ex.N,tA (qGEx c0.Ex.Kids),iA c0.Low,iA c0.High,iA c0.Key,iA c0.Add,iA c0.Raise] 0] [hA,hA] (bA r):=by
 obtain⟨p0a,p0b,p0c,⟨p0d,p0e,p0f,p0g⟩,p0h,p0i,p0j,p0k,p0l⟩:=p0
 obtain⟨c0a,c0b,c0c,⟨c0d,c0e,c0f,c0g⟩,c0h,c0i,c0j,c0k,c0l⟩:=c0
 unfold kt.f at hh
 refine gp [(3,none)] [.own] [.skip,.skip] Tryz.func86 ?_
 unhygienic intros
 cbv
 exact Eb

theorem jB {k:Nat} {g1:GRule→Option Bool} {cp1_0:GRule} (hg1:∀{y0:GRule} {r:Bool},g1 y0=some r→ah P 86 [.agg [sA y0.Name,iA y0.Pri,iA y0.Mode,iA y0.Ex.Kind,iA y0.Ex.Sym,iA y0.Ex.N,tA (qGEx y0.Ex.Kids),iA y0.Low,iA y0.High,iA y0.Key,iA y0.Add,iA y0.Raise],.iptr [sA cp1_0.Name,iA cp1_0.Pri,iA cp1_0.Mode,iA cp1_0.Ex.Kind,iA cp1_0.Ex.Sym,iA cp1_0.Ex.N,tA (qGEx cp1_0.Ex.Kids),iA cp1_0.Low,iA cp1_0.High,iA cp1_0.Key,iA cp1_0.Add,iA cp1_0.Raise] 0] [hA,hA] (bA r)) {p0:List GRule} {r:Int} (hh:bC.f g1 k p0=some r):ah P 144 [tA (qGRule p0),.clo 86 [.iptr [sA cp1_0.Name,iA cp1_0.Pri,iA cp1_0.Mode,iA cp1_0.Ex.Kind,iA cp1_0.Ex.Sym,iA cp1_0.Ex.N,tA (qGEx cp1_0.Ex.Kids),iA cp1_0.Low,iA cp1_0.High,iA cp1_0.Key,iA cp1_0.Add,iA cp1_0.Raise] 0]] [hA,hA] (iA r):=by
 obtain⟨cp1_0a,cp1_0b,cp1_0c,⟨cp1_0d,cp1_0e,cp1_0f,cp1_0g⟩,cp1_0h,cp1_0i,cp1_0j,cp1_0k,cp1_0l⟩:=cp1_0
 unfold bC.f at hh
 refine gp [(4,none)] [.own] [.skip,.skip] Tryz.func144 ?_
 unhygienic intros
 cbv
 obtain⟨d,c,hq1⟩:=ag hh
 refine lg hC (bC.l0 k g1 p0)
  (fun b=>⟨[(0,tA (qGRule p0)),(1,.clo 86 [.iptr [sA cp1_0a,iA cp1_0b,iA cp1_0c,iA cp1_0d,iA cp1_0e,iA cp1_0f,tA (qGEx cp1_0g),iA cp1_0h,iA cp1_0i,iA cp1_0j,iA cp1_0k,iA cp1_0l] 0]),(7,iA (cast (len (qGRule p0)))),(8,iA b)],[]⟩)
  (fun(_:Unit)=>⟨[],[]⟩) .ok (.exit 0)
  (i0:=_) c (fun t0 e=>kA) ?_ ?_
 rintro _ hx
 subst d
 have hh:=hq1
 cbv
 exact Eb
 rintro n b j o hh hN1 hD1 hQ1
 unfold bC.l0 at hh
 cbv
 exact D

theorem iP {k:Nat} {g1:GRule→Option Bool} {cp1_0:GRule} (hg1:∀{y0:GRule} {r:Bool},g1 y0=some r→ah P 86 [.agg [sA y0.Name,iA y0.Pri,iA y0.Mode,iA y0.Ex.Kind,iA y0.Ex.Sym,iA y0.Ex.N,tA (qGEx y0.Ex.Kids),iA y0.Low,iA y0.High,iA y0.Key,iA y0.Add,iA y0.Raise],.iptr [sA cp1_0.Name,iA cp1_0.Pri,iA cp1_0.Mode,iA cp1_0.Ex.Kind,iA cp1_0.Ex.Sym,iA cp1_0.Ex.N,tA (qGEx cp1_0.Ex.Kids),iA cp1_0.Low,iA cp1_0.High,iA cp1_0.Key,iA cp1_0.Add,iA cp1_0.Raise] 0] [hA,hA] (bA r)) {p0:List GRule} {r:Bool} (hh:eg.f g1 k p0=some r):ah P 85 [tA (qGRule p0),.clo 86 [.iptr [sA cp1_0.Name,iA cp1_0.Pri,iA cp1_0.Mode,iA cp1_0.Ex.Kind,iA cp1_0.Ex.Sym,iA cp1_0.Ex.N,tA (qGEx cp1_0.Ex.Kids),iA cp1_0.Low,iA cp1_0.High,iA cp1_0.Key,iA cp1_0.Add,iA cp1_0.Raise] 0]] [hA,hA] (bA r):=by
 obtain⟨cp1_0a,cp1_0b,cp1_0c,⟨cp1_0d,cp1_0e,cp1_0f,cp1_0g⟩,cp1_0h,cp1_0i,cp1_0j,cp1_0k,cp1_0l⟩:=cp1_0
 unfold eg.f at hh
 refine gp [(4,none)] [.own] [.skip,.skip] Tryz.func85 ?_
 unhygienic intros
 cbv
 have e1:=@jB
 exact D

theorem yH {k:Nat} {p0:List GRule} {r:Bool} (hh:di.f k p0=some r):ah P 38 [tA (qGRule p0)] [hA] (bA r):=by
 unfold di.f at hh
 refine gp [(2,none)] [.own] [.skip] Tryz.func38 ?_
 unhygienic intros
 cbv
 obtain⟨d,c,hq1⟩:=ag hh
 refine lg hC (di.l0 k p0)
  (fun b=>⟨[(0,tA (qGRule p0)),(5,tA (qGRule p0)),(6,iA (cast (len (qGRule p0)))),(7,iA b)],[]⟩)
  (fun(_:Unit)=>⟨[(0,tA (qGRule p0))],[]⟩) .ok (.exit 0)
  (i0:=_) c (fun t0 e=>kA) ?_ ?_
 rintro _ hx
 subst d
 have hh:=hq1
 cbv
 exact Eb
 rintro n b j o hh hN1 hD1 hQ1
 unfold di.l0 at hh
 cbv
 have c1:=@zQ
 have e1:=@iP
 have c2:=@uV
 exact D

end Go.Proofs.YtlbnmldopjadoaaGreat
