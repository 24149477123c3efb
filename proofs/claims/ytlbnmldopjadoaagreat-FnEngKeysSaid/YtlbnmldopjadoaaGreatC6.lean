/- The functions of this program do what the plain ones do. -/
import Derived.Test.YtlbnmldopjadoaaGreatC5
namespace Go.Proofs.YtlbnmldopjadoaaGreat
open Go Go.Vm
set_option linter.unusedVariables false
set_option maxHeartbeats 4000000
set_option maxRecDepth 4000
variable {qIu8:Vm.RW Int} {qGEx:Vm.RW GEx} {qGRule:Vm.RW GRule} {qStr:Vm.RW ByteArray} {qInt:Vm.RW Int} {qGExO:Vm.RW GEx} {qGOcc:Vm.RW GOcc} {qGNode:Vm.RW GNode} {qGNodeS:Vm.RW GNode} {qGGraphS2:Vm.RW GGraph} {qGGraph:Vm.RW GGraph} {qGEv:Vm.RW GEv} {qGFire:Vm.RW GFire} {qGOccO:Vm.RW GOcc} {qLGOcc:Vm.RW (List GOcc)} {qBool:Vm.RW Bool} {qGGraphS:Vm.RW GGraph} {qLInt:Vm.RW (List Int)} (hQ:EQ qIu8 qGEx qGRule qStr qInt qGExO qGOcc qGNode qGNodeS qGGraphS2 qGGraph qGEv qGFire qGOccO qLGOcc qBool qGGraphS qLInt)
include hQ
theorem zM {k:Nat} {p0:GGraph} {p1:GEv} {r:GGraph×(List GOcc)} (hh:dN.f k p0 p1=some r):ah P 98 [.agg [iA p0.Mode,oA 10 (qGNodeS p0.Nodes),iA p0.Seen,iA p0.Now,bA p0.Full],.agg [iA p1.Sym,iA p1.At,iA p1.Val]] [hA,hA] (.tup [.agg [iA r.1.Mode,oA 10 (qGNodeS r.1.Nodes),iA r.1.Seen,iA r.1.Now,bA r.1.Full],oA 3 (qGOcc r.2)]):=by
 obtain⟨p0a,p0b,p0c,p0d,p0e⟩:=p0
 obtain⟨p1a,p1b,p1c⟩:=p1
 unfold dN.f at hh
 refine gp [(4,some 91),(5,none)] [.own,.own] [.skip,.skip] Tryz.func98 ?_
 unhygienic intros
 cbv
 obtain⟨C,B,hq1⟩:=ag hh
 refine lg hC (U7 (dN.l0 k (⟨p1a,p1b,p1c⟩:GEv)))
  (fun⟨o,b,p,s,t,c,u⟩=>⟨[(2,mA (2,0)),(3,mA (3,0)),(4,mA (4,0)),(6,rA (11,0) (len (qGOcc c))),(1000000,.agg [iA p0a,hA,iA p0c,iA p0d,bA u])],[((0,0),.arr 1 10 (qGNodeS b)),((2,0),.box 1 [iA o,rA (0,0) (len (qGNodeS b)),iA p,iA s,bA t]),((3,0),.box 1 [iA p1a,iA p1b,iA p1c]),((4,0),.box 1 [iA 0,zA,iA 0,iA 0,bA false]),((11,0),.arr 1 3 (qGOcc c))]⟩)
  (fun⟨v,d,w,y,z,j,A⟩=>⟨[(2,mA (2,0)),(3,mA (3,0)),(4,mA (4,0)),(6,rA (11,0) (len (qGOcc j))),(1000000,.agg [iA p0a,hA,iA p0c,iA p0d,bA A])],[((0,0),.arr 1 10 (qGNodeS d)),((2,0),.box 1 [iA v,rA (0,0) (len (qGNodeS d)),iA w,iA y,bA z]),((3,0),.box 1 [iA p1a,iA p1b,iA p1c]),((4,0),.box 1 [iA 0,zA,iA 0,iA 0,bA false]),((11,0),.arr 1 3 (qGOcc j))]⟩) (fun x=>x) (.exit 0)
  (i0:=(_,_,_,_,_,_,_)) B (fun⟨t0,t1,t2,t3,t4,t5,t6⟩ e=>kA) ?_ ?_
 rintro⟨v,d,w,y,z,j,A⟩ hx
 subst C
 have hh:=hq1
 cbv
 have c1:=@rJ
 exact D
 rintro n ⟨o,b,p,s,t,c,u⟩ F G hh hN1 hD1 hQ1
 dsimp only[U7] at hh
 unfold dN.l0 at hh
 cbv
 have c1:=@qN
 have c2:=@rJ
 exact D

theorem Ay {p0:GEng} {p1:GOcc} {r:Int} (hh:kq.f p0 p1=some r):ah P 209 [.agg [tA (qGRule p0.Rules),tA (qGGraph p0.Graphs),tA (qGEv p0.Events),tA (qInt p0.Keys),tA (qGFire p0.Fired)],.agg [iA p1.From,iA p1.To,tA (qInt p1.Ids)]] [hA,hA] (iA r):=by
 obtain⟨p0a,p0b,p0c,p0d,p0e⟩:=p0
 obtain⟨p1a,p1b,p1c⟩:=p1
 unfold kq.f at hh
 refine gp [(4,none)] [.own] [.skip,.skip] Tryz.func209 ?_
 unhygienic intros
 cbv
 exact D
theorem oS {p0:GEng} {p1:GOcc} {r:Int} (hh:kq.f p0 p1=some r):ah P 209 [.agg [tA (qGRule p0.Rules),oA 5 (qGGraphS2 p0.Graphs),oA 3 (qGEv p0.Events),oA 1 (qInt p0.Keys),oA 4 (qGFire p0.Fired)],.agg [iA p1.From,iA p1.To,tA (qInt p1.Ids)]] [.agg [tA (qGRule p0.Rules),oA 5 (qGGraphS2 p0.Graphs),oA 3 (qGEv p0.Events),oA 1 (qInt p0.Keys),oA 4 (qGFire p0.Fired)],hA] (iA r):=by
  cases hQ;exact(Ay .mk hh).lend (rfl) (.lend (by simp) (.same rfl .nil))

theorem wW {p0:Gl9Call} {p1:Int} {p2:GOcc} {r:Gl9Call} (hh:fX.f p0 p1 p2=some r):ah P 167 [.agg [tA (qGRule p0.eng.Rules),oA 5 (qGGraphS2 p0.eng.Graphs),oA 3 (qGEv p0.eng.Events),oA 1 (qInt p0.eng.Keys),oA 4 (qGFire p0.eng.Fired),oA 3 (qGEv p0.queue),iA p0.raised,iA p0.code],iA p1,.agg [iA p2.From,iA p2.To,tA (qInt p2.Ids)]] [hA,hA,hA] (.agg [tA (qGRule r.eng.Rules),oA 5 (qGGraphS2 r.eng.Graphs),oA 3 (qGEv r.eng.Events),oA 1 (qInt r.eng.Keys),oA 4 (qGFire r.eng.Fired),oA 3 (qGEv r.queue),iA r.raised,iA r.code]):=by
 obtain⟨⟨p0a,p0b,p0c,p0d,p0e⟩,p0f,p0g,p0h⟩:=p0
 obtain⟨p2a,p2b,p2c⟩:=p2
 unfold fX.f at hh
 refine gp [(6,some 126)] [.own] [.skip,.skip,.skip] Tryz.func167 ?_
 unhygienic intros
 cbv
 obtain⟨U,hh⟩:=ae hh
 obtain⟨⟨F,G,H,⟨I,J,K,L⟩,M,N,O,Q,R⟩,V,hh⟩:=ag hh
 try dsimp only at hh
 refine⟨[sA F,iA G,iA H,iA I,iA J,iA K,tA (qGEx L),iA M,iA N,iA O,iA Q,iA R],Nb U,Gb V,?_⟩
 cbv
 obtain⟨X,W,hh⟩:=ag hh
 have fc:=oS hQ W
 try dsimp only at fc
 refine ak hF fc ?_
 cbv
 refine bcs (fun j=>?_) (fun j=>?_)
 replace hh:=ifT hh j
 try rw[j]
 cbv
 exact Eb
 replace hh:=ifF hh j
 try rw[j]
 cbv
 refine bcs (fun b=>?_) (fun b=>?_)
 replace hh:=ifT hh b
 try rw[b]
 cbv
 exact Eb
 replace hh:=ifF hh b
 try rw[b]
 cbv
 replace hh:=bU hh
 rcases hh with⟨o,hh⟩|⟨o,hh⟩
 have c:(eq p0h 0)=true:=Tb o
 have g:=c;cbv at g;try rw[c]
 try rw[g]
 cbv
 obtain⟨s,hh⟩:=ae hh
 try dsimp only at s
 obtain⟨t,hh⟩:=ae hh
 try dsimp only at t
 refine⟨Nb s,Mb t,?_⟩
 obtain⟨u,v,hh⟩:=ag hh
 refine⟨[iA u],Gb v,?_⟩
 cbv
 obtain⟨w,S,hh⟩:=ag hh
 refine ak hF (tl hQ S) ?_
 cbv
 replace hh:=bU hh
 rcases hh with⟨p,hh⟩|⟨p,hh⟩
 have d:w=true:=Tb p
 have g:=d;cbv at g;try rw[d]
 try rw[g]
 cbv
 obtain⟨y,hh⟩:=ae hh
 try dsimp only at y
 obtain⟨z,hh⟩:=ae hh
 try dsimp only at z
 refine⟨Nb y,Mb z,?_⟩
 refine⟨[iA u],Gb v,?_⟩
 cbv
 obtain⟨⟨A,B,C⟩,T,hh⟩:=ag hh
 try dsimp only at hh
 have fc:=ah.frz (r':=.agg [iA A,iA B,tA (qInt C)]) (gQ hQ T) (by cases hQ;simp)
 try dsimp only at fc
 refine ak hF fc ?_
 cbv
 exact D
 have d:w=false:=Fb p
 have g:=d;cbv at g;try rw[d]
 try rw[g]
 cbv
 exact Eb
 have c:(eq p0h 0)=false:=Fb o
 have g:=c;cbv at g;try rw[c]
 try rw[g]
 cbv
 exact Eb

theorem o6 {k:Nat} {p0:Gl9Call} {p1:GEv} {r:Gl9Call} (hh:aW.f k p0 p1=some r):ah P 103 [.agg [tA (qGRule p0.eng.Rules),oA 5 (qGGraphS2 p0.eng.Graphs),oA 3 (qGEv p0.eng.Events),oA 1 (qInt p0.eng.Keys),oA 4 (qGFire p0.eng.Fired),oA 3 (qGEv p0.queue),iA p0.raised,iA p0.code],.agg [iA p1.Sym,iA p1.At,iA p1.Val]] [hA,hA] (.agg [tA (qGRule r.eng.Rules),oA 5 (qGGraphS2 r.eng.Graphs),oA 3 (qGEv r.eng.Events),oA 1 (qInt r.eng.Keys),oA 4 (qGFire r.eng.Fired),oA 3 (qGEv r.queue),iA r.raised,iA r.code]):=by
 obtain⟨⟨p0a,p0b,p0c,p0d,p0e⟩,p0f,p0g,p0h⟩:=p0
 obtain⟨p1a,p1b,p1c⟩:=p1
 unfold aW.f at hh
 refine gq [14] [] [] [(4,some 126)] [.own] [.skip,.skip] Tryz.func103 ?_
 unhygienic intros
 cbv
 replace hh:=bU hh
 rcases hh with⟨b1,hh⟩|⟨b1,hh⟩
 have W:(lt (cast (len (qGEv p0c))) 24)=true:=Tb b1
 have g:=W;cbv at g;try rw[W]
 try rw[g]
 cbv
 refine bcs (fun X=>?_) (fun X=>?_)
 replace hh:=ifT hh X
 try rw[X]
 cbv
 exact Eb
 replace hh:=ifF hh X
 try rw[X]
 cbv
 obtain⟨h5,hh⟩:=ae hh
 try dsimp only at h5
 refine⟨⟨Ob,Ab⟩,?_⟩
 refine⟨⟨Ob,Wb h5⟩,?_⟩
 obtain⟨B,h6,hh⟩:=ag hh
 refine ak hF (uh hQ h6) ?_
 cbv
 obtain⟨o1,IX,hq1⟩:=ag hh
 refine lgq [14] [] [] hC (U9 (aW.l2 k (⟨p1a,p1b,p1c⟩:GEv) B))
  (fun⟨Y,v,w,y,z,A,Z,Iy,U⟩=>⟨[(2,mA (2,0)),(3,mA (3,0)),(4,mA (4,0)),(5,rA (34,0) (len (qInt B))),(6,iA U),(1000000,.agg [tA (qGRule p0a),hA,hA,hA,hA,hA,iA p0g,iA p0h])],[((0,0),.arr 1 5 (qGGraphS2 v)),((0,2),.arr 1 1 (qInt y)),((0,3),.arr 1 4 (qGFire z)),((0,4),.arr 1 3 (qGEv A)),((2,0),.box 1 [tA (qGRule Y),rA (0,0) (len (qGGraphS2 v)),rA (28,0) (len (qGEv w)),rA (0,2) (len (qInt y)),rA (0,3) (len (qGFire z)),rA (0,4) (len (qGEv A)),iA Z,iA Iy]),((3,0),.box 1 [iA p1a,iA p1b,iA p1c]),((4,0),.box 1 [zA,zA,zA,zA,zA,zA,iA 0,iA 0]),((28,0),.arr 1 3 (qGEv w)),((34,0),.arr 1 1 (qInt B))]⟩)
  (fun⟨eS,C,F,G,H,I,HP,Ia⟩=>⟨[(2,mA (2,0)),(4,mA (4,0)),(1000000,.agg [tA (qGRule p0a),hA,hA,hA,hA,hA,iA p0g,iA p0h])],[((0,0),.arr 1 5 (qGGraphS2 C)),((0,2),.arr 1 1 (qInt G)),((0,3),.arr 1 4 (qGFire H)),((0,4),.arr 1 3 (qGEv I)),((2,0),.box 1 [tA (qGRule eS),rA (0,0) (len (qGGraphS2 C)),rA (28,0) (len (qGEv F)),rA (0,2) (len (qInt G)),rA (0,3) (len (qGFire H)),rA (0,4) (len (qGEv I)),iA HP,iA Ia]),((4,0),.box 1 [zA,zA,zA,zA,zA,zA,iA 0,iA 0]),((28,0),.arr 1 3 (qGEv F))]⟩) .ok (.exit 0)
  (i0:=(_,_,_,_,_,_,_,_,_)) IX (fun⟨t0,t1,t2,t3,t4,t5,t6,t7,t8⟩ e=>kA) ?_ ?_
 rintro⟨eS,C,F,G,H,I,HP,Ia⟩ hx
 subst o1
 have hh:=hq1
 cbv
 exact Eb
 rintro n ⟨Y,v,w,y,z,A,Z,Iy,U⟩ N1 D1 hh hN1 hD1 hQ1
 dsimp only[U9] at hh
 unfold aW.l2 at hh
 cbv
 refine bcs (fun b=>?_) (fun b=>?_)
 replace hh:=ifT hh b
 try rw[b]
 cbv
 refine bcs (fun c=>?_) (fun c=>?_)
 replace hh:=ifT hh c
 try rw[c]
 cbv
 obtain⟨IC,hh⟩:=ae hh
 obtain⟨IG,hh⟩:=ae hh
 refine⟨Nb IC,Mb IG,?_⟩
 obtain⟨u,II,hh⟩:=ag hh
 refine⟨[iA u],Gb II,?_⟩
 cbv
 obtain⟨IJ,hh⟩:=ae hh
 obtain⟨IL,hh⟩:=ae hh
 refine⟨Nb IJ,Mb IL,?_⟩
 obtain⟨⟨I3,I6,Jb,Jc,Jd⟩,IP,hh⟩:=ag hh
 try dsimp only at hh
 refine⟨_,Gk (kn qGNodeS) IP,?_⟩
 cbv
 obtain⟨⟨⟨o,p,s,t,V⟩,d⟩,IR,hh⟩:=ag hh
 try dsimp only at hh
 have fc:=zM hQ IR
 try dsimp only at fc
 refine ak hF fc ?_
 cbv
 obtain⟨IT,hh⟩:=ae hh
 obtain⟨IU,hh⟩:=ae hh
 refine⟨Nb IT,Mb IU,?_⟩
 try refine⟨rfl,?_⟩
 refine bcs (fun j=>?_) (fun j=>?_)
 replace hh:=ifT hh j
 try rw[j]
 cbv
 refine tR hC (bH [14] [] []) mixed ⟨[(2,mA (2,0)),(4,mA (4,0)),(1000000,.agg [tA (qGRule p0a),hA,hA,hA,hA,hA,iA p0g,iA p0h])],[((0,0),.arr 1 5 (qGGraphS2 (v.set u.toNat ((⟨o,p,s,t,true⟩:GGraph))))),((0,2),.arr 1 1 (qInt y)),((0,3),.arr 1 4 (qGFire z)),((0,4),.arr 1 3 (qGEv A)),((2,0),.box 1 [tA (qGRule Y),rA (0,0) (len (qGGraphS2 v)),rA (28,0) (len (qGEv w)),rA (0,2) (len (qInt y)),rA (0,3) (len (qGFire z)),rA (0,4) (len (qGEv A)),iA Z,iA 2]),((4,0),.box 1 [zA,zA,zA,zA,zA,zA,iA 0,iA 0]),((28,0),.arr 1 3 (qGEv w))]⟩ ?_ ?_
 ·cbv
  refine dh hC (0,0) ?_
  cbv
  refine qC ?_
  cbv
  all_goals exact Zb
 cbv
 exact D
 replace hh:=ifF hh j
 try rw[j]
 cbv
 obtain⟨o2,I1,hq2⟩:=ag hh
 refine lgq [14] [] [] hC (U9 (aW.l3 k u (⟨⟨o,p,s,t,V⟩,d⟩:GGraph×(List GOcc))))
  (fun⟨Ic,J,K,L,M,N,Io,Is,It⟩=>⟨[(2,mA (2,0)),(3,mA (3,0)),(4,mA (4,0)),(5,rA (34,0) (len (qInt B))),(6,iA U),(7,iA u),(9,rA (58,5) (len (qGOcc d))),(10,iA It),(1000000,.agg [tA (qGRule p0a),hA,hA,hA,hA,hA,iA p0g,iA p0h])],[((0,0),.arr 1 5 (qGGraphS2 J)),((0,2),.arr 1 1 (qInt L)),((0,3),.arr 1 4 (qGFire M)),((0,4),.arr 1 3 (qGEv N)),((2,0),.box 1 [tA (qGRule Ic),rA (0,0) (len (qGGraphS2 J)),rA (28,0) (len (qGEv K)),rA (0,2) (len (qInt L)),rA (0,3) (len (qGFire M)),rA (0,4) (len (qGEv N)),iA Io,iA Is]),((3,0),.box 1 [iA p1a,iA p1b,iA p1c]),((4,0),.box 1 [zA,zA,zA,zA,zA,zA,iA 0,iA 0]),((28,0),.arr 1 3 (qGEv K)),((34,0),.arr 1 1 (qInt B)),((58,5),.arr 1 3 (qGOcc d))]⟩)
  (fun⟨Iv,O,Q,R,S,T,Iw,Ix⟩=>⟨[(2,mA (2,0)),(3,mA (3,0)),(4,mA (4,0)),(5,rA (34,0) (len (qInt B))),(6,iA U),(1000000,.agg [tA (qGRule p0a),hA,hA,hA,hA,hA,iA p0g,iA p0h])],[((0,0),.arr 1 5 (qGGraphS2 O)),((0,2),.arr 1 1 (qInt R)),((0,3),.arr 1 4 (qGFire S)),((0,4),.arr 1 3 (qGEv T)),((2,0),.box 1 [tA (qGRule Iv),rA (0,0) (len (qGGraphS2 O)),rA (28,0) (len (qGEv Q)),rA (0,2) (len (qInt R)),rA (0,3) (len (qGFire S)),rA (0,4) (len (qGEv T)),iA Iw,iA Ix]),((3,0),.box 1 [iA p1a,iA p1b,iA p1c]),((4,0),.box 1 [zA,zA,zA,zA,zA,zA,iA 0,iA 0]),((28,0),.arr 1 3 (qGEv Q)),((34,0),.arr 1 1 (qInt B))]⟩) (fun x=>x) (.exit 2)
  (i0:=(_,_,_,_,_,_,_,_,_)) I1 ?_ ?_ ?_
 ·rintro⟨t0,t1,t2,t3,t4,t5,t6,t7,t8⟩ e
  refine dh hC (0,0) ?_
  cbv
  refine qC ?_
  cbv
  all_goals exact Jz
 rintro⟨Iv,O,Q,R,S,T,Iw,Ix⟩ hx
 subst o2
 have hh:=hq2
 cbv
 exact D
 rintro n ⟨Ic,J,K,L,M,N,Io,Is,It⟩ N2 D2 hh hN2 hD2 hQ2
 dsimp only[U9] at hh
 unfold aW.l3 at hh
 cbv
 have c1:=@wW
 exact D
 replace hh:=ifF hh c
 try rw[c]
 cbv
 exact D
 replace hh:=ifF hh b
 try rw[b]
 cbv
 exact D
 have W:(lt (cast (len (qGEv p0c))) 24)=false:=Fb b1
 have g:=W;cbv at g;try rw[W]
 try rw[g]
 cbv
 exact Eb

theorem qf {k:Nat} {p0:GEng} {p1:Int} {p2:Int} {p3:Int} {r:GEng×Int×(List GFire)} (hh:ce.f k p0 p1 p2 p3=some r):ah P 44 [.agg [tA (qGRule p0.Rules),tA (qGGraph p0.Graphs),tA (qGEv p0.Events),tA (qInt p0.Keys),tA (qGFire p0.Fired)],iA p1,iA p2,iA p3] [hA,hA,hA,hA] (.tup [.agg [tA (qGRule r.1.Rules),oA 5 (qGGraphS2 r.1.Graphs),oA 3 (qGEv r.1.Events),oA 1 (qInt r.1.Keys),oA 4 (qGFire r.1.Fired)],iA r.2.1,oA 4 (qGFire r.2.2)]):=by
 obtain⟨p0a,p0b,p0c,p0d,p0e⟩:=p0
 unfold ce.f at hh
 refine gq [11,14] [] [] [(8,some 53),(9,none),(10,none)] [.own,.own,.own] [.skip,.skip,.skip,.skip] Tryz.func44 ?_
 unhygienic intros
 cbv
 obtain⟨x2,h1,hh⟩:=ag hh
 refine ak hF (By hQ h1) ?_
 cbv
 replace hh:=bU hh
 rcases hh with⟨U,hh⟩|⟨U,hh⟩
 have C:x2=true:=Tb U
 have g:=C;cbv at g;try rw[C]
 try rw[g]
 cbv
 refine bcs (fun F=>?_) (fun F=>?_)
 replace hh:=ifT hh F
 try rw[F]
 cbv
 have c1:=@eQ
 exact D
 replace hh:=ifF hh F
 try rw[F]
 cbv
 replace hh:=bU hh
 rcases hh with⟨G,hh⟩|⟨G,hh⟩
 have d:(lt p1 5)=true:=Tb G
 have g:=d;cbv at g;try rw[d]
 try rw[g]
 cbv
 refine bcs (fun j=>?_) (fun j=>?_)
 replace hh:=ifT hh j
 try rw[j]
 cbv
 have c1:=@eQ
 exact D
 replace hh:=ifF hh j
 try rw[j]
 cbv
 refine bcs (fun o=>?_) (fun o=>?_)
 replace hh:=ifT hh o
 try rw[o]
 cbv
 have c1:=@eQ
 exact D
 replace hh:=ifF hh o
 try rw[o]
 cbv
 refine bcs (fun p=>?_) (fun p=>?_)
 replace hh:=ifT hh p
 try rw[p]
 cbv
 have c1:=@eQ
 exact D
 replace hh:=ifF hh p
 try rw[p]
 cbv
 refine bcs (fun s=>?_) (fun s=>?_)
 replace hh:=ifT hh s
 try rw[s]
 cbv
 have c1:=@eQ
 exact D
 replace hh:=ifF hh s
 try rw[s]
 cbv
 obtain⟨⟨Iy,Iz,IC,IG,II⟩,Ia,hh⟩:=ag hh
 try dsimp only at hh
 have fc:=eQ hQ Ia
 try dsimp only at fc
 refine ak hF fc ?_
 cbv
 obtain⟨I3,Ic,hh⟩:=ag hh
 refine ak hF (ot hQ Ic) ?_
 cbv
 obtain⟨⟨⟨IJ,IL,IP,IR,IT⟩,IU,IW,IX⟩,Io,hh⟩:=ag hh
 try dsimp only at hh
 refine⟨3,?_⟩
 cbv
 have fc:=o6 hQ Io
 try dsimp only at fc
 refine ak hF fc ?_
 cbv
 obtain⟨o1,Is,hq1⟩:=ag hh
 refine lgq [11,14] [] [] hC (U8 (ce.l0 k))
  (fun⟨H,t,u,v,w,c,I,J⟩=>⟨[(4,mA (4,0)),(8,mA (8,0)),(11,mA (11,0))],[((4,0),.box 1 [tA (qGRule p0a),tA (qGGraph p0b),tA (qGEv p0c),tA (qInt p0d),tA (qGFire p0e)]),((8,0),.box 1 [zA,zA,zA,zA,zA]),((11,0),.box 1 [tA (qGRule H),rA (55,0) (len (qGGraphS2 t)),rA (55,1) (len (qGEv u)),rA (55,2) (len (qInt v)),rA (55,3) (len (qGFire w)),rA (55,4) (len (qGEv c)),iA I,iA J]),((55,0),.arr 1 5 (qGGraphS2 t)),((55,1),.arr 1 3 (qGEv u)),((55,2),.arr 1 1 (qInt v)),((55,3),.arr 1 4 (qGFire w)),((55,4),.arr 1 3 (qGEv c))]⟩)
  (fun⟨S,K,L,M,N,O,T,B⟩=>⟨[(4,mA (4,0)),(8,mA (8,0)),(11,mA (11,0))],[((4,0),.box 1 [tA (qGRule p0a),tA (qGGraph p0b),tA (qGEv p0c),tA (qInt p0d),tA (qGFire p0e)]),((8,0),.box 1 [zA,zA,zA,zA,zA]),((11,0),.box 1 [tA (qGRule S),rA (55,0) (len (qGGraphS2 K)),rA (55,1) (len (qGEv L)),rA (55,2) (len (qInt M)),rA (55,3) (len (qGFire N)),rA (55,4) (len (qGEv O)),iA T,iA B]),((55,0),.arr 1 5 (qGGraphS2 K)),((55,1),.arr 1 3 (qGEv L)),((55,2),.arr 1 1 (qInt M)),((55,3),.arr 1 4 (qGFire N)),((55,4),.arr 1 3 (qGEv O))]⟩) (fun x=>x) (.exit 0)
  (i0:=(_,_,_,_,_,_,_,_)) Is (fun⟨t0,t1,t2,t3,t4,t5,t6,t7⟩ e=>kA) ?_ ?_
 rintro⟨S,K,L,M,N,O,T,B⟩ hx
 subst o1
 have hh:=hq1
 cbv
 replace hh:=bU hh
 rcases hh with⟨A,hh⟩|⟨A,hh⟩
 have b:(eq B 0)=true:=Tb A
 have g:=b;cbv at g;try rw[b]
 try rw[g]
 cbv
 refine v8 hC (bH [11,14] [] []) mixed [(55,0),(55,1),(55,2),(55,3)] ?_
 cbv
 have c1:=@eQ
 have c2:=@rB
 exact D
 have b:(eq B 0)=false:=Fb A
 have g:=b;cbv at g;try rw[b]
 try rw[g]
 cbv
 have c1:=@eQ
 exact D
 rintro n ⟨H,t,u,v,w,c,I,J⟩ N1 D1 hh hN1 hD1 hQ1
 dsimp only[U8] at hh
 unfold ce.l0 at hh
 cbv
 refine bcs (fun y=>?_) (fun y=>?_)
 replace hh:=ifT hh y
 try rw[y]
 cbv
 refine bcs (fun z=>?_) (fun z=>?_)
 replace hh:=ifT hh z
 try rw[z]
 cbv
 obtain⟨It,hh⟩:=ae hh
 obtain⟨Iv,hh⟩:=ae hh
 refine⟨Nb It,Mb Iv,?_⟩
 obtain⟨⟨Q,V,R⟩,Iw,hh⟩:=ag hh
 try dsimp only at hh
 refine⟨[iA Q,iA V,iA R],Gb Iw,?_⟩
 cbv
 obtain⟨W,hh⟩:=ae hh
 obtain⟨X,hh⟩:=ae hh
 obtain⟨Y,hh⟩:=ae hh
 refine⟨⟨Nb W,Nb X,Nb Y⟩,?_⟩
 obtain⟨Z,eS,hh⟩:=ag hh
 refine ak hF (wg hQ eS) ?_
 cbv
 refine tR hC (bH [11,14] [] []) mixed ⟨[(4,mA (4,0)),(8,mA (8,0)),(11,mA (11,0)),(12,mA (12,0))],[((4,0),.box 1 [tA (qGRule p0a),tA (qGGraph p0b),tA (qGEv p0c),tA (qInt p0d),tA (qGFire p0e)]),((8,0),.box 1 [zA,zA,zA,zA,zA]),((11,0),.box 1 [tA (qGRule H),rA (55,0) (len (qGGraphS2 t)),rA (55,1) (len (qGEv u)),rA (55,2) (len (qInt v)),rA (55,3) (len (qGFire w)),rA (55,4) (toNat (sub (cast (len (qGEv c))) 1)),iA I,iA J]),((12,0),.box 1 [iA Q,iA (wrap .i64 (add Z 1)),iA R]),((55,0),.arr 1 5 (qGGraphS2 t)),((55,1),.arr 1 3 (qGEv u)),((55,2),.arr 1 1 (qInt v)),((55,3),.arr 1 4 (qGFire w)),((55,4),.arr 1 3 (part (qGEv c) (nadd 0 (toNat 1)) (toNat (sub (cast (len (qGEv c))) 1))))]⟩ ?_ ?_
 ·cbv
  refine CV hC (11,0) 5 ?_
  cbv
  refine⟨Ob,?_⟩
  refine qC ?_
  cbv
  all_goals exact Zb
 cbv
 have c1:=@o6
 exact D
 replace hh:=ifF hh z
 try rw[z]
 cbv
 exact D
 replace hh:=ifF hh y
 try rw[y]
 cbv
 exact D
 have d:(lt p1 5)=false:=Fb G
 have g:=d;cbv at g;try rw[d]
 try rw[g]
 cbv
 have c1:=@eQ
 exact D
 have C:x2=false:=Fb U
 have g:=C;cbv at g;try rw[C]
 try rw[g]
 cbv
 refine⟨0,?_⟩
 cbv
 refine⟨5,?_⟩
 cbv
 refine⟨3,?_⟩
 cbv
 refine⟨1,?_⟩
 cbv
 refine⟨4,?_⟩
 cbv
 exact Eb

theorem Bg {k:Nat} {p0:Gl14Rd} {r:GOcc×Gl14Rd} (hh:eA.f k p0=some r):ah P 163 [.obox [tA (qIu8 p0.b),iA p0.p]] [.obox [tA (qIu8 r.2.b),iA r.2.p]] (.agg [iA r.1.From,iA r.1.To,oA 1 (qInt r.1.Ids)]):=by
 obtain⟨p0a,p0b⟩:=p0
 unfold eA.f at hh
 refine gp [(2,some 67)] [.own] [.own] Tryz.func163 ?_
 unhygienic intros
 cbv
 obtain⟨⟨c,⟨F,G⟩⟩,M,hh⟩:=ag hh
 try dsimp only at hh
 have fc:=bV hQ M
 try dsimp only at fc
 refine ak hF fc ?_
 cbv
 obtain⟨⟨d,⟨H,I⟩⟩,N,hh⟩:=ag hh
 try dsimp only at hh
 refine⟨Ob,?_⟩
 have fc:=dF hQ N
 try dsimp only at fc
 refine ak hF fc ?_
 cbv
 obtain⟨⟨O,⟨J,K⟩⟩,Q,hh⟩:=ag hh
 try dsimp only at hh
 have fc:=bV hQ Q
 try dsimp only at fc
 refine ak hF fc ?_
 cbv
 obtain⟨⟨L,⟨z,A⟩⟩,B,hh⟩:=ag hh
 try dsimp only at hh
 have fc:=bV hQ B
 try dsimp only at fc
 refine ak hF fc ?_
 cbv
 obtain⟨R,C,hq1⟩:=ag hh
 refine lg hC (U5 (eA.l0 k))
  (fun⟨s,t,j,u,v⟩=>⟨[(0,mA (0,0)),(2,mA (2,0)),(4,mA (4,0)),(5,iA u),(6,iA v),(1000000,mA (0,0))],[((0,0),.box 1 [tA (qIu8 s),iA t]),((2,0),.box 1 [iA 0,iA 0,zA]),((4,0),.box 1 [iA (wrap .i64 (add 1 c)),iA (wrap .i64 (add (wrap .i64 (add 1 c)) d)),rA (4,52) (len (qInt j))]),((4,52),.arr 1 1 (qInt j))]⟩)
  (fun⟨o,w,y⟩=>⟨[(2,mA (2,0)),(4,mA (4,0)),(1000000,mA (0,0))],[((0,0),.box 1 [tA (qIu8 w),iA y]),((2,0),.box 1 [iA 0,iA 0,zA]),((4,0),.box 1 [iA (wrap .i64 (add 1 c)),iA (wrap .i64 (add (wrap .i64 (add 1 c)) d)),rA (4,52) (len (qInt o))]),((4,52),.arr 1 1 (qInt o))]⟩) (fun x=>x) (.exit 0)
  (i0:=(_,_,_,_,_)) C (fun⟨t0,t1,t2,t3,t4⟩ e=>kA) ?_ ?_
 rintro⟨o,w,y⟩ hx
 subst R
 have hh:=hq1
 cbv
 exact Eb
 rintro n ⟨s,t,j,u,v⟩ S T hh hN1 hD1 hQ1
 dsimp only[U5] at hh
 unfold eA.l0 at hh
 cbv
 have c1:=@bV
 exact D

end Go.Proofs.YtlbnmldopjadoaaGreat
