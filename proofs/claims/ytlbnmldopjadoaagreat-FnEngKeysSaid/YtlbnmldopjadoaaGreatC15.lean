/- The functions of this program do what the plain ones do. -/
import Derived.Test.YtlbnmldopjadoaaGreatC14
namespace Go.Proofs.YtlbnmldopjadoaaGreat
open Go Go.Vm
set_option linter.unusedVariables false
set_option maxHeartbeats 4000000
set_option maxRecDepth 4000
variable {qIu8:Vm.RW Int} {qGEx:Vm.RW GEx} {qGRule:Vm.RW GRule} {qStr:Vm.RW ByteArray} {qInt:Vm.RW Int} {qGExO:Vm.RW GEx} {qGOcc:Vm.RW GOcc} {qGNode:Vm.RW GNode} {qGNodeS:Vm.RW GNode} {qGGraphS2:Vm.RW GGraph} {qGGraph:Vm.RW GGraph} {qGEv:Vm.RW GEv} {qGFire:Vm.RW GFire} {qGOccO:Vm.RW GOcc} {qLGOcc:Vm.RW (List GOcc)} {qBool:Vm.RW Bool} {qGGraphS:Vm.RW GGraph} {qLInt:Vm.RW (List Int)} (hQ:EQ qIu8 qGEx qGRule qStr qInt qGExO qGOcc qGNode qGNodeS qGGraphS2 qGGraph qGEv qGFire qGOccO qLGOcc qBool qGGraphS qLInt)
include hQ
theorem ug {k:Nat} {p0:GGraph} {p1:GEv} {r:(List GOcc)×GGraph} (hh:cf.f k p0 p1=some r):ah P 62 [.obox [iA p0.Mode,oA 10 (qGNode p0.Nodes),iA p0.Seen,iA p0.Now,bA p0.Full],.agg [iA p1.Sym,iA p1.At,iA p1.Val]] [.obox [iA r.2.Mode,oA 10 (qGNode r.2.Nodes),iA r.2.Seen,iA r.2.Now,bA r.2.Full],hA] (oA 3 (qGOcc r.1)):=by
 obtain⟨p0a,p0b,p0c,p0d,p0e⟩:=p0
 obtain⟨p1a,p1b,p1c⟩:=p1
 unfold cf.f at hh
 refine gp [(4,none)] [.own] [.own,.skip] Tryz.func62 ?_
 unhygienic intros
 cbv
 obtain⟨o1,L,hq1⟩:=ag hh
 refine lg hC (U6 (cf.l0 k (⟨p1a,p1b,p1c⟩:GEv)))
  (fun⟨B,t,C,F,o,u⟩=>⟨[(0,mA (0,0)),(3,mA (3,0)),(5,rA (5,50) (len (qGOcc u))),(1000000,mA (0,0))],[((0,0),.box 1 [iA B,rA (900,0) (len (qGNode t)),iA C,iA F,bA o]),((3,0),.box 1 [iA p1a,iA p1b,iA p1c]),((5,50),.arr 1 3 (qGOcc u)),((900,0),.arr 1 10 (qGNode t))]⟩)
  (fun⟨G,v,H,I,p,w⟩=>⟨[(0,mA (0,0)),(3,mA (3,0)),(5,rA (5,50) (len (qGOcc w))),(1000000,mA (0,0))],[((0,0),.box 1 [iA G,rA (900,0) (len (qGNode v)),iA H,iA I,bA p]),((3,0),.box 1 [iA p1a,iA p1b,iA p1c]),((5,50),.arr 1 3 (qGOcc w)),((900,0),.arr 1 10 (qGNode v))]⟩) (fun x=>x) (.exit 0)
  (i0:=(_,_,_,_,_,_)) L ?_ ?_ ?_
 ·rintro⟨t0,t1,t2,t3,t4,t5⟩ e
  refine ji hC (0,0) 900 ?_
  cbv
  refine bm [((0,0),(0,0)),((3,0),(3,0)),((900,0),(900,0))] ?_
  cbv
  all_goals exact Jz
 rintro⟨G,v,H,I,p,w⟩ hx
 subst o1
 have hh:=hq1
 cbv
 replace hh:=bU hh
 rcases hh with⟨y,hh⟩|⟨y,hh⟩
 have b:p=true:=Tb y
 have g:=b;cbv at g;try rw[b]
 try rw[g]
 cbv
 refine⟨3,?_⟩
 cbv
 refine⟨10,?_⟩
 cbv
 exact Eb
 have b:p=false:=Fb y
 have g:=b;cbv at g;try rw[b]
 try rw[g]
 cbv
 obtain⟨⟨Iw,⟨M,N,O,Q,R⟩,⟨S,T,U⟩⟩,V,hh⟩:=ag hh
 try dsimp only at hh
 have fc:=rk hQ V
 try dsimp only at fc
 refine ak hF fc ?_
 cbv
 obtain⟨J,hh⟩:=ae hh
 try dsimp only at J
 refine⟨⟨Ab,Ab⟩,?_⟩
 refine⟨⟨Ob,Wb J⟩,?_⟩
 refine bcs (fun c=>?_) (fun c=>?_)
 replace hh:=ifT hh c
 try rw[c]
 cbv
 refine⟨3,?_⟩
 cbv
 refine⟨10,?_⟩
 cbv
 exact Eb
 replace hh:=ifF hh c
 try rw[c]
 cbv
 exact Eb
 rintro n ⟨B,t,C,F,o,u⟩ N1 D1 hh hN1 hD1 hQ1
 dsimp only[U6] at hh
 unfold cf.l0 at hh
 cbv
 replace hh:=bU hh
 rcases hh with⟨z,hh⟩|⟨z,hh⟩
 have d:o=true:=Tb z
 have g:=d;cbv at g;try rw[d]
 try rw[g]
 cbv
 exact D
 have d:o=false:=Fb z
 have g:=d;cbv at g;try rw[d]
 try rw[g]
 cbv
 obtain⟨⟨Ix,s,⟨W,X,Y,Z,eS⟩⟩,HP,hh⟩:=ag hh
 try dsimp only at hh
 have fc:=uW hQ HP
 try dsimp only at fc
 refine ak hF fc ?_
 cbv
 replace hh:=bU hh
 rcases hh with⟨A,hh⟩|⟨A,hh⟩
 have j:s=true:=Tb A
 have g:=j;cbv at g;try rw[j]
 try rw[g]
 cbv
 obtain⟨⟨Iy,⟨Ia,Ic,Io,Is,It⟩⟩,Iv,hh⟩:=ag hh
 try dsimp only at hh
 have fc:=oT hQ Iv
 try dsimp only at fc
 refine ak hF fc ?_
 cbv
 obtain⟨K,hh⟩:=ae hh
 try dsimp only at K
 refine⟨⟨Ab,Ab⟩,?_⟩
 refine⟨⟨Ob,Wb K⟩,?_⟩
 ·refine hN1 (_,_,_,_,_,_) _ hh fun⟨t0,t1,t2,t3,t4,t5⟩ e=>?_
  refine ji hC (0,0) 900 ?_
  cbv
  refine bm [((0,0),(0,0)),((3,0),(3,0)),((5,50),(26,0)),((900,0),(900,0))] ?_
  cbv
  all_goals exact Jz
 have j:s=false:=Fb A
 have g:=j;cbv at g;try rw[j]
 try rw[g]
 cbv
 ·refine hD1 (_,_,_,_,_,_) _ hh fun⟨t0,t1,t2,t3,t4,t5⟩ e=>?_
  refine ji hC (0,0) 900 ?_
  cbv
  refine qC ?_
  cbv
  all_goals exact Jz

theorem uX {p0:GEng} {p1:GRule} {p2:GOcc} {r:Int×Bool} (hh:iI.f p0 p1 p2=some r):ah P 225 [.agg [tA (qGRule p0.Rules),tA (qGGraph p0.Graphs),tA (qGEv p0.Events),tA (qInt p0.Keys),tA (qGFire p0.Fired)],.agg [sA p1.Name,iA p1.Pri,iA p1.Mode,iA p1.Ex.Kind,iA p1.Ex.Sym,iA p1.Ex.N,tA (qGEx p1.Ex.Kids),iA p1.Low,iA p1.High,iA p1.Key,iA p1.Add,iA p1.Raise],.agg [iA p2.From,iA p2.To,tA (qInt p2.Ids)]] [hA,hA,hA] (.tup [iA r.1,bA r.2]):=by
 obtain⟨p0a,p0b,p0c,p0d,p0e⟩:=p0
 obtain⟨p1a,p1b,p1c,⟨p1d,p1e,p1f,p1g⟩,p1h,p1i,p1j,p1k,p1l⟩:=p1
 obtain⟨p2a,p2b,p2c⟩:=p2
 unfold iI.f at hh
 refine gp [(6,none),(7,none)] [.own,.own] [.skip,.skip,.skip] Tryz.func225 ?_
 unhygienic intros
 cbv
 have c1:=@lM
 have c2:=@dC
 exact D
theorem mW {p0:GEng} {p1:GRule} {p2:GOcc} {r:Int×Bool} (hh:iI.f p0 p1 p2=some r):ah P 225 [.agg [tA (qGRule p0.Rules),oA 5 (qGGraphS p0.Graphs),oA 3 (qGEv p0.Events),oA 1 (qInt p0.Keys),oA 4 (qGFire p0.Fired)],.agg [sA p1.Name,iA p1.Pri,iA p1.Mode,iA p1.Ex.Kind,iA p1.Ex.Sym,iA p1.Ex.N,tA (qGEx p1.Ex.Kids),iA p1.Low,iA p1.High,iA p1.Key,iA p1.Add,iA p1.Raise],.agg [iA p2.From,iA p2.To,tA (qInt p2.Ids)]] [.agg [tA (qGRule p0.Rules),oA 5 (qGGraphS p0.Graphs),oA 3 (qGEv p0.Events),oA 1 (qInt p0.Keys),oA 4 (qGFire p0.Fired)],hA,hA] (.tup [iA r.1,bA r.2]):=by
  cases hQ;exact(uX .mk hh).lend (rfl) (.lend (by simp) (.same rfl (.same rfl .nil)))

theorem vR {p0:GEng} {p1:Int} {p2:GOcc} {p3:Graiser} {r:Int×GEng×Graiser} (hh:jm.f p0 p1 p2 p3=some r):ah P 190 [.obox [tA (qGRule p0.Rules),oA 5 (qGGraphS p0.Graphs),oA 3 (qGEv p0.Events),oA 1 (qInt p0.Keys),oA 4 (qGFire p0.Fired)],iA p1,.agg [iA p2.From,iA p2.To,tA (qInt p2.Ids)],.obox [oA 3 (qGEv p3.queue),iA p3.raised]] [.obox [tA (qGRule r.2.1.Rules),oA 5 (qGGraphS r.2.1.Graphs),oA 3 (qGEv r.2.1.Events),oA 1 (qInt r.2.1.Keys),oA 4 (qGFire r.2.1.Fired)],hA,hA,.obox [oA 3 (qGEv r.2.2.queue),iA r.2.2.raised]] (iA r.1):=by
 obtain⟨p0a,p0b,p0c,p0d,p0e⟩:=p0
 obtain⟨p2a,p2b,p2c⟩:=p2
 obtain⟨p3a,p3b⟩:=p3
 unfold jm.f at hh
 refine gp [(8,none)] [.own] [.own,.skip,.skip,.own] Tryz.func190 ?_
 unhygienic intros
 cbv
 have c1:=@mW
 have c2:=@dC
 exact D

theorem tr {k:Nat} {p0:GEng} {p1:GEv} {p2:Graiser} {r:Int×GEng×Graiser} (hh:aV.f k p0 p1 p2=some r):ah P 143 [.obox [tA (qGRule p0.Rules),oA 5 (qGGraphS p0.Graphs),oA 3 (qGEv p0.Events),oA 1 (qInt p0.Keys),oA 4 (qGFire p0.Fired)],.agg [iA p1.Sym,iA p1.At,iA p1.Val],.obox [oA 3 (qGEv p2.queue),iA p2.raised]] [.obox [tA (qGRule r.2.1.Rules),oA 5 (qGGraphS r.2.1.Graphs),oA 3 (qGEv r.2.1.Events),oA 1 (qInt r.2.1.Keys),oA 4 (qGFire r.2.1.Fired)],hA,.obox [oA 3 (qGEv r.2.2.queue),iA r.2.2.raised]] (iA r.1):=by
 obtain⟨p0a,p0b,p0c,p0d,p0e⟩:=p0
 obtain⟨p1a,p1b,p1c⟩:=p1
 obtain⟨p2a,p2b⟩:=p2
 unfold aV.f at hh
 refine gp [(6,none)] [.own] [.own,.skip,.own] Tryz.func143 ?_
 unhygienic intros
 cbv
 refine bcs (fun W=>?_) (fun W=>?_)
 replace hh:=ifT hh W
 try rw[W]
 cbv
 exact Eb
 replace hh:=ifF hh W
 try rw[W]
 cbv
 refine bcs (fun X=>?_) (fun X=>?_)
 replace hh:=ifT hh X
 try rw[X]
 cbv
 exact Eb
 replace hh:=ifF hh X
 try rw[X]
 cbv
 obtain⟨h5,hh⟩:=ae hh
 try dsimp only at h5
 refine⟨⟨Ob,Ab⟩,?_⟩
 refine⟨⟨Ob,Wb h5⟩,?_⟩
 obtain⟨p,h6,hh⟩:=ag hh
 refine ak hF (BP hQ h6) ?_
 cbv
 obtain⟨o1,Jh,hq1⟩:=ag hh
 refine lg hC (U8 (aV.l2 k (⟨p1a,p1b,p1c⟩:GEv) p))
  (fun⟨IG,U,Y,Z,eS,HP,II,V⟩=>⟨[(0,mA (0,0)),(2,mA (2,0)),(4,mA (4,0)),(39,rA (39,0) (len (qInt p))),(40,iA (cast (len (qInt p)))),(41,iA V),(1000000,mA (0,0)),(1000002,mA (2,0))],[((0,0),.box 1 [tA (qGRule IG),rA (900,0) (len (qGGraphS U)),rA (32,0) (len (qGEv Y)),rA (900,1) (len (qInt Z)),rA (900,2) (len (qGFire eS))]),((2,0),.box 1 [rA (901,0) (len (qGEv HP)),iA II]),((4,0),.box 1 [iA p1a,iA p1b,iA p1c]),((32,0),.arr 1 3 (qGEv Y)),((39,0),.arr 1 1 (qInt p)),((900,0),.arr 1 5 (qGGraphS U)),((900,1),.arr 1 1 (qInt Z)),((900,2),.arr 1 4 (qGFire eS)),((901,0),.arr 1 3 (qGEv HP))]⟩)
  (fun⟨Ia,A,B,C,F,G,Ic⟩=>⟨[(1000000,mA (0,0)),(1000002,mA (2,0))],[((0,0),.box 1 [tA (qGRule Ia),rA (900,0) (len (qGGraphS A)),rA (32,0) (len (qGEv B)),rA (900,1) (len (qInt C)),rA (900,2) (len (qGFire F))]),((2,0),.box 1 [rA (901,0) (len (qGEv G)),iA Ic]),((32,0),.arr 1 3 (qGEv B)),((900,0),.arr 1 5 (qGGraphS A)),((900,1),.arr 1 1 (qInt C)),((900,2),.arr 1 4 (qGFire F)),((901,0),.arr 1 3 (qGEv G))]⟩) .ok (.exit 0)
  (i0:=(_,_,_,_,_,_,_,_)) Jh ?_ ?_ ?_
 ·rintro⟨t0,t1,t2,t3,t4,t5,t6,t7⟩ e
  refine ji hC (0,0) 900 ?_
  cbv
  refine ji hC (2,0) 901 ?_
  cbv
  refine qC ?_
  cbv
  all_goals exact Jz
 rintro⟨Ia,A,B,C,F,G,Ic⟩ hx
 subst o1
 have hh:=hq1
 cbv
 exact Eb
 rintro n ⟨IG,U,Y,Z,eS,HP,II,V⟩ N1 D1 hh hN1 hD1 hQ1
 dsimp only[U8] at hh
 unfold aV.l2 at hh
 cbv
 refine bcs (fun c=>?_) (fun c=>?_)
 replace hh:=ifT hh c
 try rw[c]
 cbv
 obtain⟨IJ,hh⟩:=ae hh
 obtain⟨IL,hh⟩:=ae hh
 refine⟨Nb IJ,Mb IL,?_⟩
 obtain⟨y,IP,hh⟩:=ag hh
 refine⟨[iA y],Gb IP,?_⟩
 cbv
 obtain⟨IR,hh⟩:=ae hh
 obtain⟨IT,hh⟩:=ae hh
 refine⟨Nb IR,Mb IT,?_⟩
 obtain⟨⟨Jj,Jk,Jl,Jn,Jo⟩,H,hh⟩:=ag hh
 try dsimp only at hh
 obtain⟨⟨b,⟨s,t,u,v,w⟩⟩,IU,hh⟩:=ag hh
 try dsimp only at hh
 have fc:=ah.rowedC hC (ug hQ IU) rfl (.row (rows:=(qGGraphS U)) (k:=5) (i:=(nadd 0 (toNat y))) (Gb H) rfl (.same .nil))
 try dsimp only at fc
 refine ak hF fc ?_
 cbv
 refine⟨⟨Ob,trivial⟩,?_⟩
 cbv
 refine⟨[iA s,oA 10 (qGNode t),iA u,iA v,bA w],Gb2 H ((List.getElem?_eq_some_iff.1 H).1),?_⟩
 cbv
 refine bcs (fun d=>?_) (fun d=>?_)
 replace hh:=ifT hh d
 try rw[d]
 cbv
 exact D
 replace hh:=ifF hh d
 try rw[d]
 cbv
 obtain⟨o2,Ji,hq2⟩:=ag hh
 refine lg hC (U8 (aV.l3 k y (⟨b,⟨s,t,u,v,w⟩⟩:(List GOcc)×GGraph)))
  (fun⟨Io,I,J,K,L,M,Is,It⟩=>⟨[(0,mA (0,0)),(2,mA (2,0)),(4,mA (4,0)),(8,iA y),(39,rA (39,0) (len (qInt p))),(40,iA (cast (len (qInt p)))),(41,iA V),(58,rA (53,0) (len (qGOcc b))),(59,iA (cast (len (qGOcc b)))),(60,iA It),(1000000,mA (0,0)),(1000002,mA (2,0))],[((0,0),.box 1 [tA (qGRule Io),rA (900,0) (len (qGGraphS I)),rA (32,0) (len (qGEv J)),rA (900,1) (len (qInt K)),rA (900,2) (len (qGFire L))]),((2,0),.box 1 [rA (901,0) (len (qGEv M)),iA Is]),((4,0),.box 1 [iA p1a,iA p1b,iA p1c]),((32,0),.arr 1 3 (qGEv J)),((39,0),.arr 1 1 (qInt p)),((53,0),.arr 1 3 (qGOcc b)),((900,0),.arr 1 5 (qGGraphS I)),((900,1),.arr 1 1 (qInt K)),((900,2),.arr 1 4 (qGFire L)),((901,0),.arr 1 3 (qGEv M))]⟩)
  (fun⟨Iv,N,O,Q,R,S,Iw⟩=>⟨[(0,mA (0,0)),(2,mA (2,0)),(4,mA (4,0)),(39,rA (39,0) (len (qInt p))),(40,iA (cast (len (qInt p)))),(41,iA V),(1000000,mA (0,0)),(1000002,mA (2,0))],[((0,0),.box 1 [tA (qGRule Iv),rA (900,0) (len (qGGraphS N)),rA (32,0) (len (qGEv O)),rA (900,1) (len (qInt Q)),rA (900,2) (len (qGFire R))]),((2,0),.box 1 [rA (901,0) (len (qGEv S)),iA Iw]),((4,0),.box 1 [iA p1a,iA p1b,iA p1c]),((32,0),.arr 1 3 (qGEv O)),((39,0),.arr 1 1 (qInt p)),((900,0),.arr 1 5 (qGGraphS N)),((900,1),.arr 1 1 (qInt Q)),((900,2),.arr 1 4 (qGFire R)),((901,0),.arr 1 3 (qGEv S))]⟩) .ok (.exit 2)
  (i0:=(_,_,_,_,_,_,_,_)) Ji (fun⟨t0,t1,t2,t3,t4,t5,t6,t7⟩ e=>kA) ?_ ?_
 rintro⟨Iv,N,O,Q,R,S,Iw⟩ hx
 subst o2
 have hh:=hq2
 cbv
 exact D
 rintro n ⟨Io,I,J,K,L,M,Is,It⟩ N2 D2 hh hN2 hD2 hQ2
 dsimp only[U8] at hh
 unfold aV.l3 at hh
 cbv
 refine bcs (fun j=>?_) (fun j=>?_)
 replace hh:=ifT hh j
 try rw[j]
 cbv
 obtain⟨IW,hh⟩:=ae hh
 obtain⟨Ix,hh⟩:=ae hh
 try dsimp only at Ix
 refine⟨Nb IW,Mb Ix,?_⟩
 obtain⟨⟨Iy,Iz,IC⟩,IX,hh⟩:=ag hh
 try dsimp only at hh
 refine⟨[iA Iy,iA Iz,tA (qInt IC)],Gb IX,?_⟩
 cbv
 obtain⟨⟨z,⟨I3,I6,Jb,Jc,Jd⟩,⟨Je,Jf⟩⟩,I1,hh⟩:=ag hh
 try dsimp only at hh
 have fc:=vR hQ I1
 try dsimp only at fc
 refine ak hF fc ?_
 cbv
 replace hh:=bU hh
 rcases hh with⟨T,hh⟩|⟨T,hh⟩
 have o:(eq z 0)=true:=Tb T
 have g:=o;cbv at g;try rw[o]
 try rw[g]
 cbv
 ·refine hN2 (_,_,_,_,_,_,_,_) _ hh fun⟨t0,t1,t2,t3,t4,t5,t6,t7⟩ e=>?_
  refine ji hC (0,0) 900 ?_
  cbv
  refine ji hC (2,0) 901 ?_
  cbv
  refine bm [((0,0),(0,0)),((2,0),(2,0)),((4,0),(4,0)),((32,0),(900,1)),((39,0),(39,0)),((53,0),(53,0)),((900,0),(900,0)),((900,1),(900,2)),((900,2),(900,3)),((901,0),(901,0))] ?_
  cbv
  all_goals exact Jz
 have o:(eq z 0)=false:=Fb T
 have g:=o;cbv at g;try rw[o]
 try rw[g]
 cbv
 exact D
 replace hh:=ifF hh j
 try rw[j]
 cbv
 exact D
 replace hh:=ifF hh c
 try rw[c]
 cbv
 exact D

theorem vN {k:Nat} {p0:GEng} {p1:Int} {p2:Int} {p3:Int} {r:GEng×Int×(List GFire)} (hh:da.f k p0 p1 p2 p3=some r):ah P 84 [.agg [tA (qGRule p0.Rules),tA (qGGraph p0.Graphs),tA (qGEv p0.Events),tA (qInt p0.Keys),tA (qGFire p0.Fired)],iA p1,iA p2,iA p3] [hA,hA,hA,hA] (.tup [.agg [tA (qGRule r.1.Rules),oA 5 (qGGraphS r.1.Graphs),oA 3 (qGEv r.1.Events),oA 1 (qInt r.1.Keys),oA 4 (qGFire r.1.Fired)],iA r.2.1,oA 4 (qGFire r.2.2)]):=by
 obtain⟨p0a,p0b,p0c,p0d,p0e⟩:=p0
 unfold da.f at hh
 refine gq [9,12] [] [] [(8,some 53),(9,none),(10,none)] [.own,.own,.own] [.skip,.skip,.skip,.skip] Tryz.func84 ?_
 unhygienic intros
 cbv
 obtain⟨⟨Ic,Io,Is,It,Iv⟩,h1,hh⟩:=ag hh
 try dsimp only at hh
 have fc:=je hQ h1
 try dsimp only at fc
 refine ak hF fc ?_
 cbv
 obtain⟨o1,J,hq1⟩:=ag hh
 refine lgq [9,12] [] [] hC (U8 (da.l0 k (⟨p0a,p0b,p0c,p0d,p0e⟩:GEng)))
  (fun⟨u,c,d,j,o,b,v,w⟩=>⟨[(4,mA (4,0)),(8,mA (8,0)),(11,mA (11,0)),(12,mA (23,0)),(13,iA w)],[((4,0),.box 1 [tA (qGRule p0a),tA (qGGraph p0b),tA (qGEv p0c),tA (qInt p0d),tA (qGFire p0e)]),((8,0),.box 1 [zA,zA,zA,zA,zA]),((11,0),.box 1 [tA (qGRule u),rA (17,0) (len (qGGraphS c)),rA (17,1) (len (qGEv d)),rA (17,2) (len (qInt j)),rA (17,3) (len (qGFire o))]),((17,0),.arr 1 5 (qGGraphS c)),((17,1),.arr 1 3 (qGEv d)),((17,2),.arr 1 1 (qInt j)),((17,3),.arr 1 4 (qGFire o)),((21,0),.arr 1 3 (qGEv b)),((23,0),.box 1 [rA (21,0) (len (qGEv b)),iA v])]⟩)
  (fun⟨H,y,z,A,B⟩=>⟨[(4,mA (4,0)),(8,mA (8,0)),(11,mA (11,0))],[((4,0),.box 1 [tA (qGRule p0a),tA (qGGraph p0b),tA (qGEv p0c),tA (qInt p0d),tA (qGFire p0e)]),((8,0),.box 1 [zA,zA,zA,zA,zA]),((11,0),.box 1 [tA (qGRule H),rA (17,0) (len (qGGraphS y)),rA (17,1) (len (qGEv z)),rA (17,2) (len (qInt A)),rA (17,3) (len (qGFire B))]),((17,0),.arr 1 5 (qGGraphS y)),((17,1),.arr 1 3 (qGEv z)),((17,2),.arr 1 1 (qInt A)),((17,3),.arr 1 4 (qGFire B))]⟩) .ok (.exit 0)
  (i0:=(_,_,_,_,_,_,_,_)) J (fun⟨t0,t1,t2,t3,t4,t5,t6,t7⟩ e=>kA) ?_ ?_
 rintro⟨H,y,z,A,B⟩ hx
 subst o1
 have hh:=hq1
 cbv
 refine v8 hC (bH [9,12] [] []) mixed [(17,0),(17,1),(17,2),(17,3)] ?_
 cbv
 have c1:=@je
 have c2:=@nC
 exact D
 rintro n ⟨u,c,d,j,o,b,v,w⟩ N1 D1 hh hN1 hD1 hQ1
 dsimp only[U8] at hh
 unfold da.l0 at hh
 cbv
 refine bcs (fun p=>?_) (fun p=>?_)
 replace hh:=ifT hh p
 try rw[p]
 cbv
 obtain⟨K,hh⟩:=ae hh
 obtain⟨L,hh⟩:=ae hh
 refine⟨Nb K,Mb L,?_⟩
 obtain⟨⟨C,I,F⟩,M,hh⟩:=ag hh
 try dsimp only at hh
 refine⟨[iA C,iA I,iA F],Gb M,?_⟩
 cbv
 obtain⟨N,hh⟩:=ae hh
 obtain⟨O,hh⟩:=ae hh
 obtain⟨Q,hh⟩:=ae hh
 refine⟨⟨Nb N,Nb O,Nb Q⟩,?_⟩
 obtain⟨R,S,hh⟩:=ag hh
 refine ak hF (zP hQ S) ?_
 cbv
 refine tR hC (bH [9,12] [] []) mixed ⟨[(4,mA (4,0)),(8,mA (8,0)),(11,mA (11,0)),(12,mA (23,0)),(14,mA (14,0))],[((4,0),.box 1 [tA (qGRule p0a),tA (qGGraph p0b),tA (qGEv p0c),tA (qInt p0d),tA (qGFire p0e)]),((8,0),.box 1 [zA,zA,zA,zA,zA]),((11,0),.box 1 [tA (qGRule u),rA (17,0) (len (qGGraphS c)),rA (17,1) (len (qGEv d)),rA (17,2) (len (qInt j)),rA (17,3) (len (qGFire o))]),((14,0),.box 1 [iA C,iA (wrap .i64 (add R w)),iA F]),((17,0),.arr 1 5 (qGGraphS c)),((17,1),.arr 1 3 (qGEv d)),((17,2),.arr 1 1 (qInt j)),((17,3),.arr 1 4 (qGFire o)),((21,0),.arr 1 3 (part (qGEv b) (nadd 0 (toNat 1)) (toNat (sub (cast (len (qGEv b))) 1)))),((23,0),.box 1 [rA (21,0) (toNat (sub (cast (len (qGEv b))) 1)),iA v])]⟩ ?_ ?_
 ·cbv
  refine CV hC (23,0) 0 ?_
  cbv
  refine⟨Ob,?_⟩
  refine qC ?_
  cbv
  all_goals exact Zb
 cbv
 obtain⟨⟨t,⟨T,U,V,W,X⟩,⟨Y,Z⟩⟩,eS,hh⟩:=ag hh
 try dsimp only at hh
 refine⟨Ob,?_⟩
 have fc:=tr hQ eS
 try dsimp only at fc
 refine ak hF fc ?_
 cbv
 replace hh:=bU hh
 rcases hh with⟨G,hh⟩|⟨G,hh⟩
 have s:(eq t 0)=true:=Tb G
 have g:=s;cbv at g;try rw[s]
 try rw[g]
 cbv
 ·refine hN1 (_,_,_,_,_,_,_,_) _ hh fun⟨t0,t1,t2,t3,t4,t5,t6,t7⟩ e=>?_
  refine ji hC (11,0) 900 ?_
  cbv
  refine ji hC (23,0) 901 ?_
  cbv
  refine bm [((4,0),(4,0)),((8,0),(8,0)),((11,0),(11,0)),((17,0),(900,0)),((17,1),(900,1)),((17,2),(900,2)),((17,3),(900,3)),((21,0),(901,0)),((23,0),(23,0))] ?_
  cbv
  all_goals exact Jz
 have s:(eq t 0)=false:=Fb G
 have g:=s;cbv at g;try rw[s]
 try rw[g]
 cbv
 have c1:=@je
 exact D
 replace hh:=ifF hh p
 try rw[p]
 cbv
 exact D

theorem xB {k:Nat} {p0:GEng} {p1:Int} {p2:Int} {p3:Int} {r:GEng×Int×(List GFire)} (hh:fM.f k p0 p1 p2 p3=some r):ah P 35 [.agg [tA (qGRule p0.Rules),tA (qGGraph p0.Graphs),tA (qGEv p0.Events),tA (qInt p0.Keys),tA (qGFire p0.Fired)],iA p1,iA p2,iA p3] [hA,hA,hA,hA] (.tup [.agg [tA (qGRule r.1.Rules),oA 5 (qGGraphS r.1.Graphs),oA 3 (qGEv r.1.Events),oA 1 (qInt r.1.Keys),oA 4 (qGFire r.1.Fired)],iA r.2.1,oA 4 (qGFire r.2.2)]):=by
 obtain⟨p0a,p0b,p0c,p0d,p0e⟩:=p0
 unfold fM.f at hh
 refine gp [(8,some 53),(9,none),(10,none)] [.own,.own,.own] [.skip,.skip,.skip,.skip] Tryz.func35 ?_
 unhygienic intros
 cbv
 obtain⟨d,j,hh⟩:=ag hh
 refine ak hF (Ax hQ j) ?_
 cbv
 replace hh:=bU hh
 rcases hh with⟨c,hh⟩|⟨c,hh⟩
 have b:d=true:=Tb c
 have g:=b;cbv at g;try rw[b]
 try rw[g]
 cbv
 have c1:=@z8
 have c2:=@vN
 have c3:=@je
 exact D
 have b:d=false:=Fb c
 have g:=b;cbv at g;try rw[b]
 try rw[g]
 cbv
 refine⟨0,?_⟩
 cbv
 refine⟨5,?_⟩
 cbv
 refine⟨3,?_⟩
 cbv
 refine⟨1,?_⟩
 cbv
 refine⟨4,?_⟩
 cbv
 refine⟨4,?_⟩
 cbv
 exact Eb

end Go.Proofs.YtlbnmldopjadoaaGreat
