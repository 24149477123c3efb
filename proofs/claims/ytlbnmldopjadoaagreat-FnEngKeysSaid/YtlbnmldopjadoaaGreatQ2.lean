/- Plain lemmas about the functions over data; third part. -/
import Derived.Test.YtlbnmldopjadoaaGreatQ1
namespace Go.Proofs.YtlbnmldopjadoaaGreat
open Go Go.Vm
set_option linter.unusedVariables false
set_option linter.unusedSimpArgs false
theorem G7 {l:List GEv} (h:l.length≤1000):gX.f l=some (aL l):=by
 rw[(wD l qom).2]
 have a:=(wD l qom).1
 rw[tN l h] at a
 exact a.symm
theorem CW (k:Nat) (hk:2000000000000≤k):∀(f N:Nat) (m:Int) (e:GEng) (q:Graiser),m<(f:Int)→m≤100→f<N→fR e→QI m q→
  ∃qs ra,ce.l0 k N e.Rules e.Graphs e.Events e.Keys e.Fired q.queue q.raised 0=some ((cq f e q 1).2.Rules,(cq f e q 1).2.Graphs,(cq f e q 1).2.Events,(cq f e q 1).2.Keys,(cq f e q 1).2.Fired,qs,ra,(cq f e q 1).1)
 |0,N,m,e,q,hf,_,_,_,hq=>by have:=hq.sum;have:=hq.raised;omega
 |f+1,N,m,e,q,hf,hm,hN,he,hq=>by
  obtain⟨N,rfl⟩:=qsc N
  have hev:=dV he.evs
  have hla:=ly he.evs
  have hqs:=hq.sum
  have hqr:=hq.raised
  rw[ce.l0,if_pos rfl]
  obtain⟨qq,rz⟩:=q
  cases hqq:qq with
  |nil=>
   dsimp only
   rw[if_neg (by simp),show cq (f+1) e ⟨[],rz⟩ 1=(0,e) from by rw[cq]]
   exact⟨_,_,rfl⟩
  |cons x r=>
   subst hqq
   dsimp only at hqs hqr⊢
   have hx:=hq.evs x (by simp)
   rw[if_pos (by simp),ac (by decide),ac (by simp)]
   simp only[qzs,qzb]
   rw[ac (by decide),ac (by simp only[qzm];omega),ac (ml _),G7 qom]
   simp only[qzb]
   rw[wr _ qom]
   have e1:((x::r).drop 1).take ((((x::r).length:Nat):Int)-1).toNat=r:=by
    simp only[List.drop_succ_cons,qzB]
    rw[qzD]
    simp only[qzm];omega
   rw[e1,show(⟨e.Rules,e.Graphs,e.Events,e.Keys,e.Fired⟩:GEng)=e from rfl]
   simp only[qzm] at hqs
   have hq':QI (m-1) ⟨r,rz⟩:=⟨fun z hz=>hq.evs z (by simp[hz]),hqr,by dsimp only;omega⟩
   have hx1:aL e.Events<aL e.Events+1∧aL e.Events+1≤1000000:=by omega
   obtain⟨_,p2⟩:=pn k qom he (x:=⟨x.Sym,aL e.Events+1,x.Val⟩) hx1 hx (m-1) qom hq'
   have p1:=Bd k qom he (x:=⟨x.Sym,aL e.Events+1,x.Val⟩) hx1 hx (m-1) qom hq'
   rw[p1]
   simp only[qzb,pY]
   have hL:cq (f+1) e ⟨x::r,rz⟩ 1=if(bg e ⟨x.Sym,aL e.Events+1,x.Val⟩ ⟨r,rz⟩).1=0 then cq f (bg e ⟨x.Sym,aL e.Events+1,x.Val⟩ ⟨r,rz⟩).2.1 (bg e ⟨x.Sym,aL e.Events+1,x.Val⟩ ⟨r,rz⟩).2.2 1
     else((bg e ⟨x.Sym,aL e.Events+1,x.Val⟩ ⟨r,rz⟩).1,(bg e ⟨x.Sym,aL e.Events+1,x.Val⟩ ⟨r,rz⟩).2.1):=by rw[cq]
   rw[hL]
   clear hL p1
   generalize bg e ⟨x.Sym,aL e.Events+1,x.Val⟩ ⟨r,rz⟩=z at p2⊢
   by_cases hz:z.1=0
   ·rw[if_pos hz,hz]
    obtain⟨g1,g2,g3,g4,more,g5⟩:=p2 hz
    exact CW k hk f N (m-1) z.2.1 z.2.2 qom qom qom g1 g2
   ·rw[if_neg hz]
    obtain⟨N,rfl⟩:=qsc N
    rw[ce.l0,if_neg hz]
    exact⟨_,_,rfl⟩
theorem HC (k:Nat) (hk:2000000000000≤k) {e:GEng} (h:fR e) {sym gap val:Int} (hc:gD ⟨sym,gap,val⟩=true) :
  ce.f k e sym gap val=some (cZ e sym gap val):=by
 have hc':=hc
 unfold gD at hc
 simp only[qzf,decide_eq_true_eq] at hc
 have hev:=dV h.evs
 have hla:=ly h.evs
 have hkeys:=h.keys.1
 unfold ce.f
 rw[tb k hk (qo h)]
 have ho:=pv k hk (qo h)
 rw[AV k hk h] at ho
 rw[←pQ ho]
 simp only[qzb,if_true]
 rw[if_neg qom,if_pos qom,if_neg qom,if_neg qom,if_neg qom,if_neg qom,vu k hk h]
 simp only[qzb]
 rw[G7 qom]
 simp only[qzb]
 rw[wr _ qom,show(⟨e.Rules,e.Graphs,e.Events,e.Keys,e.Fired⟩:GEng)=e from rfl]
 have hq:QI 6 ⟨[],0⟩:=⟨fun z hz=>by simp at hz,by dsimp only;omega,by simp⟩
 have hx1:aL e.Events<aL e.Events+gap∧aL e.Events+gap≤1000000:=by omega
 obtain⟨_,p2⟩:=pn k qom h (x:=⟨sym,aL e.Events+gap,val⟩) hx1 (by dsimp only;omega) 6 qom hq
 have p1:=Bd k qom h (x:=⟨sym,aL e.Events+gap,val⟩) hx1 (by dsimp only;omega) 6 qom hq
 dsimp only at p1
 rw[p1]
 obtain⟨c1,c2,c3,⟨more,c4⟩,_⟩:=xb k hk h hc'
 clear c1
 unfold cZ at c2 c4⊢
 have hL:cq 8 e ⟨[⟨sym,0,val⟩],0⟩ gap=if(bg e ⟨sym,aL e.Events+gap,val⟩ ⟨[],0⟩).1=0 then cq 7 (bg e ⟨sym,aL e.Events+gap,val⟩ ⟨[],0⟩).2.1 (bg e ⟨sym,aL e.Events+gap,val⟩ ⟨[],0⟩).2.2 1
   else((bg e ⟨sym,aL e.Events+gap,val⟩ ⟨[],0⟩).1,(bg e ⟨sym,aL e.Events+gap,val⟩ ⟨[],0⟩).2.1):=by rw[cq]
 rw[hL] at c2 c4⊢
 clear hL p1
 simp only[qzb,pY]
 generalize bg e ⟨sym,aL e.Events+gap,val⟩ ⟨[],0⟩=z at p2 c2 c4⊢
 have fin:∀(w:Int×GEng),fR (if w.1=0 then(w.2,(0:Int),w.2.Fired.drop e.Fired.length) else(e,w.1,[])).1→(∃more,(if w.1=0 then(w.2,(0:Int),w.2.Fired.drop e.Fired.length) else(e,w.1,[])).1.Fired=e.Fired++more)→
   (if w.1=0 then((bL.f k ((⟨w.2.Rules,w.2.Graphs,w.2.Events,w.2.Keys,w.2.Fired⟩:GEng))).bind fun x112=>(req ((0:Int)≤(e.Fired.length:Int)) (req ((e.Fired.length:Int)≤((w.2.Fired.length:Nat):Int)) (req (((w.2.Fired.length:Nat):Int)≤((w.2.Fired.length:Nat):Int)) ((cW.f k ((w.2.Fired.drop e.Fired.length).take (((w.2.Fired.length:Nat):Int)-(e.Fired.length:Int)).toNat)).bind fun x118=>(some (x112,0,x118))))))) else(some (e,w.1,([]:List GFire))))=some (if w.1=0 then(w.2,(0:Int),w.2.Fired.drop e.Fired.length) else(e,w.1,[])):=by
  intro w a ⟨more,c⟩
  by_cases hw:w.1=0
  ·rw[if_pos hw] at a c⊢
   rw[if_pos hw]
   dsimp only at a c
   rw[show(⟨w.2.Rules,w.2.Graphs,w.2.Events,w.2.Keys,w.2.Fired⟩:GEng)=w.2 from rfl,vu k hk a]
   simp only[qzb]
   have hl:e.Fired.length≤w.2.Fired.length:=by rw[c,qzg];omega
   have hev:=dV a.evs
   have hfl:=a.fired.1
   have e1:(w.2.Fired.drop e.Fired.length).take (((w.2.Fired.length:Nat):Int)-(e.Fired.length:Int)).toNat=w.2.Fired.drop e.Fired.length:=qzD (by rw[qzU];omega)
   rw[ac qom,ac qom,ac (ml _),e1,Bb k hk _ (by rw[qzU];omega) (fun f hf=>by
    have:=co ((eW f.Occ).1 (a.fired.2 f (vj hf)).2.1).2.2.2.2
    show f.Occ.Ids.length≤1000;omega)]
   rfl
  ·rw[if_neg hw,if_neg hw]
 by_cases hz:z.1=0
 ·rw[if_pos hz] at c2 c4⊢
  obtain⟨g1,g2,g3,g4,_⟩:=p2 hz
  obtain⟨qs,ra,l⟩:=CW k hk 7 k 6 z.2.1 z.2.2 qom qom qom g1 g2
  rw[hz,l]
  simp only[qzb]
  exact fin _ c2 ⟨more,c4⟩
 ·rw[if_neg hz] at c2 c4⊢
  obtain⟨n,rfl⟩:∃n,k=n+1:=⟨k-1,by omega⟩
  rw[ce.l0,if_neg hz]
  simp only[qzb]
  exact fin (z.1,z.2.1) c2 ⟨more,c4⟩
/-- a call of the program and of the reference, of an engine that is nearly valid -/
def gR (e:GEng) (sym gap val:Int):GEng×Int×List GFire:=if kC e=true then(if gD ⟨sym,gap,val⟩=true then cZ e sym gap val else(e,4,[])) else(⟨[],[],[],[],[]⟩,4,[])
theorem AQ (k:Nat) (hk:2000000000000≤k) {e:GEng} (h:sG e) (hf:e.Fired.length≤500000+2000 * e.Events.length) (sym gap val:Int) :
  fM.f k e sym gap val=some (gR e sym gap val)∧ce.f k e sym gap val=some (gR e sym gap val):=by
 unfold gR
 cases ho:kC e
 ·refine⟨?_,?_⟩
  ·unfold fM.f;rw[pv k hk h,ho];rfl
  ·unfold ce.f;rw[tb k hk h,ho];rfl
 have hi:=Dg h hf ho
 rw[if_pos rfl]
 by_cases hc:gD ⟨sym,gap,val⟩=true
 ·rw[if_pos hc]
  exact⟨(Ey k hk hi hc).1,HC k hk hi hc⟩
 ·rw[if_neg hc]
  refine⟨?_,?_⟩
  ·unfold fM.f
   rw[pv k hk h,ho]
   simp only[qzb,if_true]
   rw[pX]
   simp only[qzb]
   rw[if_neg hc,o9 k hk hi];rfl
  ·unfold ce.f
   rw[tb k hk h,ho]
   simp only[qzb,if_true]
   rw[vu k hk hi]
   unfold gD at hc
   simp only[qzf,decide_eq_true_eq] at hc
   simp only[qzb]
   repeat' split
   all_goals first|rfl|omega
theorem Cl {e:GEng} (h:fR e) {x:GEv} (hx:aL e.Events<x.At∧x.At≤1000000) (hs:0≤x.Sym∧x.Sym<5∧0≤x.Val∧x.Val≤100) (m:Int) (hm:m≤100) {q:Graiser} (hq:QI m q) (hl:e.Fired.length≤600000) (hz:(bg e x q).1=0) :
  (bg e x q).2.1.Fired.length≤e.Fired.length+160:=by
 have hev:=dV h.evs
 have hfew:=gy h.rules
 have hlast:=ly h.evs
 unfold bg at hz⊢
 by_cases h1:e.Events.length=24∨1000<x.At
 ·rw[if_pos h1] at hz;exact absurd hz (show ¬(2:Int)=0 by decide)
 rw[if_neg h1] at hz⊢
 have hev':fH (e.Events++[x])=true:=rv h.evs qom (by
  unfold jY
  simp only[qzf,decide_eq_true_eq];omega) hx.1
 have hmid:Mid e x (eF e.Rules) ⟨e.Rules,e.Graphs,e.Events++[x],e.Keys,e.Fired⟩:=by
  refine⟨rfl,rfl,h.len,fun i hi=>rfl,fun i hi g hg=>?_⟩
  exfalso
  exact hi (jU.2 ⟨i,by have:=(List.getElem?_eq_some_iff.1 hg).1;rw[←h.len];exact this,rfl⟩)
 have hown:Own e.Fired.length ⟨e.Rules,e.Graphs,e.Events++[x],e.Keys,e.Fired⟩:=by
  refine⟨h.rules,hev',h.keys,qzi _,fun f hf=>?_⟩
  obtain⟨a,b,c⟩:=h.fired.2 f hf
  refine⟨a,b,c.mono ?_⟩
  dsimp only
  rw[qzg,qzq];omega
 obtain⟨_,r2⟩:=Db 1000000000000 qom h (x:=x) ⟨hx.1,by omega⟩ qom m hm (eF e.Rules) (fun i hi=>jU.1 hi) (mF _) (by rw[fw];exact hfew) (eF e.Rules).length 0 1000000000000 ⟨e.Rules,e.Graphs,e.Events++[x],e.Keys,e.Fired⟩ q _ qom (by rw[fw];omega) hmid hown (by rw[fw];omega) hq
 simp only[qzB] at r2
 have:=(r2 hz).2.1.fired.1
 rw[fw] at this
 omega
theorem AT:∀(f:Nat) (m:Int) (e:GEng) (q:Graiser) (s:Int),m≤100→fR e→QI m q→1≤s∧s≤20→e.Fired.length≤160 * e.Events.length→(cq f e q s).1=0→
  (cq f e q s).2.Fired.length≤160 * (cq f e q s).2.Events.length
 |0,m,e,q,s,hm,he,hq,hs,hl,hz=>hl
 |f+1,m,e,q,s,hm,he,hq,hs,hl,hz=>by
  obtain⟨qq,rz⟩:=q
  have hev:=dV he.evs
  have hla:=ly he.evs
  cases hqq:qq with
  |nil=>rw[show cq (f+1) e ⟨[],rz⟩ s=(0,e) from by rw[cq]];exact hl
  |cons x r=>
   subst hqq
   have hqs:=hq.sum
   have hqr:=hq.raised
   dsimp only at hqs hqr
   simp only[qzm] at hqs
   have hx:=hq.evs x (by simp)
   have hq':QI (m-1) ⟨r,rz⟩:=⟨fun z hz=>hq.evs z (by simp[hz]),hqr,by dsimp only;omega⟩
   have hx1:aL e.Events<aL e.Events+s∧aL e.Events+s≤1000000:=by omega
   obtain⟨_,p2⟩:=pn 1000000000000 qom he (x:=⟨x.Sym,aL e.Events+s,x.Val⟩) hx1 hx (m-1) qom hq'
   have p3:=Cl he (x:=⟨x.Sym,aL e.Events+s,x.Val⟩) hx1 hx (m-1) qom hq' qom
   rw[cq] at hz⊢
   dsimp only at hz⊢
   by_cases h0:(bg e ⟨x.Sym,aL e.Events+s,x.Val⟩ ⟨r,rz⟩).1=0
   ·rw[if_pos h0] at hz⊢
    obtain⟨g1,g2,g3,g4,_⟩:=p2 h0
    have:=p3 h0
    exact AT f (m-1) _ _ 1 qom g1 g2 qom (by rw[g4,qzg,qzq];omega) hz
   ·rw[if_neg h0] at hz;exact absurd hz h0
structure xW (e:GEng):Prop where
 ok:fR e
 few:e.Fired.length≤160 * e.Events.length
theorem EM {e:GEng} (h:xW e) (sym gap val:Int):xW (gR e sym gap val).1:=by
 unfold gR
 have ho:=pv 2000000000000 qom (qo h.ok)
 rw[AV 2000000000000 qom h.ok] at ho
 rw[if_pos (pQ ho).symm]
 by_cases hc:gD ⟨sym,gap,val⟩=true
 ·rw[if_pos hc]
  obtain⟨_,c2,_⟩:=xb 2000000000000 qom h.ok hc
  refine⟨c2,?_⟩
  unfold cZ
  unfold gD at hc
  simp only[qzf,decide_eq_true_eq] at hc
  have hq:QI 7 ⟨[⟨sym,0,val⟩],0⟩:=⟨fun z hz=>by rw[List.mem_singleton.1 hz];dsimp only;omega,by dsimp only;omega,by simp⟩
  by_cases hz:(cq 8 e ⟨[⟨sym,0,val⟩],0⟩ gap).1=0
  ·rw[if_pos hz]
   exact AT 8 7 e _ gap qom h.ok hq qom h.few hz
  ·rw[if_neg hz];exact h.few
 ·rw[if_neg hc];exact h
theorem IF {l:List GRule} (h:dQ l=true):xW (qD l):=⟨HI h,by simp[qD]⟩
theorem Br {e:GEng} (h:xW e):e.Fired.length≤3840∧e.Fired.length≤500000+2000 * e.Events.length:=by
 have:=h.few
 have:=dV h.ok.evs
 omega
theorem Ek (k:Nat) (hk:2000000000000≤k):∀(c n:Nat) (b:List Int) (p m:Int) (e:GEng),c<n→c≤6→dz ⟨b,p⟩ m→m+3 * c≤100000000→xW e→
  ∃e' b' p',er.l0 k n b p e.Rules e.Graphs e.Events e.Keys e.Fired (c:Int)=some (b',p',e'.Rules,e'.Graphs,e'.Events,e'.Keys,e'.Fired)∧dz ⟨b',p'⟩ (m+3 * c)∧xW e':=by
 intro c
 induction c with
 |zero=>
  intro n b p m e hn _ hr hm he
  obtain⟨n,rfl⟩:=qsc n
  rw[er.l0,if_neg qom]
  exact⟨e,_,_,rfl,by simpa using hr,he⟩
 |succ c ih=>
  intro n b p m e hn hc hr hm he
  obtain⟨n,rfl⟩:=qsc n
  obtain⟨v,r1,e1, -, -, -,h1⟩:=fu ⟨b,p⟩ 5 m hr qom qom
  obtain⟨g,r2,e2, -,h2⟩:=fO r1 [1,1,2,5] (m+1) h1 qom (by simp)
  obtain⟨w,r3,e3, -,h3⟩:=fO r2 [0,1,5,50] (m+1+1) h2 qom (by simp)
  rw[er.l0,if_pos qom,e1]
  simp only[qzb]
  rw[e2]
  simp only[qzb]
  rw[e3]
  simp only[qzb]
  rw[show(⟨e.Rules,e.Graphs,e.Events,e.Keys,e.Fired⟩:GEng)=e from rfl,(AQ k hk (qo he.ok) (Br he).2 v g w).2]
  simp only[qzb]
  rw[wrP c qom]
  obtain⟨e',b',p',q1,q2,q3⟩:=ih n r3.b r3.p (m+1+1+1) (gR e v g w).1 qom qom h3 qom (EM he v g w)
  exact⟨e',b',p',q1,q2.mono qom,q3⟩
theorem DB (k:Nat):∀(c n:Nat) (b:List Int) (p m:Int) (acc:List Int) (s:Int),c<n→dz ⟨b,p⟩ m→m+c≤100000000→acc.length+c≤10→0≤s→s+4 * c≤1000→
  ∃l b' p',eA.l0 k n b p acc s (c:Int)=some (l,b',p')∧dz ⟨b',p'⟩ (m+c)∧l.length≤10:=by
 intro c
 induction c with
 |zero=>
  intro n b p m acc s hn hr hm ha h0 hs
  obtain⟨n,rfl⟩:=qsc n
  rw[eA.l0,if_neg qom]
  exact⟨_,_,_,rfl,by simpa using hr,by omega⟩
 |succ c ih=>
  intro n b p m acc s hn hr hm ha h0 hs
  obtain⟨n,rfl⟩:=qsc n
  obtain⟨v,r1,e1,v0,v1, -,h1⟩:=fu ⟨b,p⟩ 3 m hr qom qom
  have v1:=v1 qom
  rw[eA.l0,if_pos qom,ac qom,e1]
  simp only[qzb]
  rw[wr (s+1) qom,wr _ qom,wrP c qom]
  obtain⟨l,b',p',q1,q2,q3⟩:=ih n r1.b r1.p (m+1) (acc++[s]) (s+1+v) qom h1 qom (by rw[qzg,qzq];omega) qom qom
  exact⟨l,b',p',q1,q2.mono qom,q3⟩
theorem HH (k:Nat) (hk:1000≤k) (r:Gl14Rd) (m:Int) (hr:dz r m) (hm:m≤90000000):∃o r',eA.f k r=some (o,r')∧dz r' (m+100)∧o.Ids.length≤10:=by
 obtain⟨a,r1,e1,a0,a1, -,h1⟩:=fu r 9 m hr qom qom
 obtain⟨b,r2,e2,b0,h2⟩:=fO r1 [0,0,1,2,5] (m+1) h1 qom (by simp)
 obtain⟨c,r3,e3,c0,c1, -,h3⟩:=fu r2 3 (m+1+1) h2 qom qom
 obtain⟨d,r4,e4,d0,d1, -,h4⟩:=fu r3 3 (m+1+1+1) h3 qom qom
 have c1:=c1 qom
 have d1:=d1 qom
 obtain⟨d',rfl⟩:∃d':Nat,d=(d':Int):=⟨d.toNat,by omega⟩
 obtain⟨l,b',p',q1,q2,q3⟩:=DB k (d'+1) k r4.b r4.p (m+1+1+1+1) [] c qom h4 qom (by simp;omega) c0 qom
 unfold eA.f
 rw[e1]
 simp only[qzb]
 rw[e2]
 simp only[qzb]
 rw[e3]
 simp only[qzb]
 rw[e4]
 simp only[qzb]
 rw[wr (1+(d':Int)) qom,show(1:Int)+(d':Int)=((d'+1:Nat):Int) by omega,q1]
 exact⟨_,_,rfl,q2.mono qom,q3⟩
theorem Hu (k:Nat) (hk:2000000000000≤k) (r:Gl14Rd) (m:Int) (hr:dz r m) (hm:m≤30000000):∃e r',er.f k r=some (e,r')∧dz r' (m+3000000)∧sG e∧e.Fired.length≤4000:=by
 obtain⟨l,r1,e1,h1,h2,h3,h4⟩:=ER k hk r m hr qom
 obtain⟨v,r2,e2,v0,v1, -,g2⟩:=fu r1 7 (m+2000000) h1 qom qom
 have v1:=v1 qom
 obtain⟨c,rfl⟩:∃c:Nat,v=(c:Int):=⟨v.toNat,by omega⟩
 obtain⟨e,b,p,q1,q2,q3⟩:=Ek k hk c k r2.b r2.p (m+2000000+1) (qD l) qom qom g2 qom (IF h4)
 obtain⟨w,r3,e3, -, -, -,g3⟩:=fu ⟨b,p⟩ 50 (m+2000000+1+3 * c) q2 qom qom
 have hN:=qo q3.ok
 have hl:=(Br q3).1
 have hev:=dV q3.ok.evs
 have h4k:=q3.ok.keys.1
 unfold er.f
 rw[e1]
 simp only[qzb]
 rw[HS k hk l qom (fun r hr=>(h3 r hr).1),if_pos h4]
 simp only[qzb]
 rw[e2]
 simp only[qzb]
 rw[q1]
 simp only[qzb]
 rw[e3]
 simp only[qzb]
 by_cases c0:w=0
 ·rw[if_pos c0]
  obtain⟨x,r4,e4, -,g4⟩:=fO r3 [(-1),1000,1001] _ g3 qom (by simp)
  rw[e4]
  simp only[qzb]
  rw[ac (by decide),ac qom,qzc qom]
  exact⟨_,_,rfl,g4.mono qom,⟨hN.rules,hN.graphs,hN.evs,by dsimp only;rw[List.length_set];omega,hN.fired⟩,by dsimp only;omega⟩
 rw[if_neg c0]
 by_cases c1:w=1
 ·rw[if_pos c1]
  exact⟨_,_,rfl,g3.mono qom,⟨hN.rules,⟨by simp,fun g hg=>by simp at hg⟩,hN.evs,hN.keys,hN.fired⟩,by dsimp only;omega⟩
 rw[if_neg c1]
 by_cases c2:w=2
 ·rw[if_pos c2,ac qom]
  exact⟨_,_,rfl,g3.mono qom,⟨hN.rules,hN.graphs,by dsimp only;rw[qzg,qzq];omega,hN.keys,hN.fired⟩,by dsimp only;omega⟩
 rw[if_neg c2]
 by_cases c3:w=3
 ·rw[if_pos c3]
  obtain⟨x,r4,e4, -, -, -,g4⟩:=fu r3 3 _ g3 qom qom
  obtain⟨o,r5,e5,g5,ho⟩:=HH k qom r4 _ g4 qom
  rw[e4]
  simp only[qzb]
  rw[e5]
  simp only[qzb]
  rw[ac qom]
  refine⟨_,_,rfl,g5.mono qom,⟨hN.rules,hN.graphs,hN.evs,hN.keys,by dsimp only;rw[qzg,qzq];omega,fun f hf=>?_⟩,by dsimp only;rw[qzg,qzq];omega⟩
  rcases List.mem_append.1 hf with q|q
  ·exact hN.fired.2 f q
  ·rw[List.mem_singleton.1 q];show o.Ids.length≤1000;omega
 rw[if_neg c3]
 by_cases c4:w=4
 ·rw[if_pos c4]
  by_cases c5:0<((e.Fired.length:Nat):Int)
  ·rw[if_pos c5,ac (by decide),ac qom,ac (ml _)]
   refine⟨_,_,rfl,g3.mono qom,⟨hN.rules,hN.graphs,hN.evs,hN.keys,?_,fun f hf=>hN.fired.2 f (vj (tn hf))⟩,?_⟩
   ·dsimp only;rw[qzZ,qzU];omega
   ·dsimp only;rw[qzZ,qzU];omega
  ·rw[if_neg c5]
   exact⟨_,_,rfl,g3.mono qom,hN,show e.Fired.length≤4000 by omega⟩
 ·rw[if_neg c4]
  exact⟨_,_,rfl,g3.mono qom,hN,show e.Fired.length≤4000 by omega⟩
theorem DL (k:Nat) (hk:2000000000000≤k) (l:List Int) (hl:l.length≤1048576) (hb:∀y∈l,0≤y∧y≤255):∃e s g v,gK.f k l=some (e,s,g,v)∧sG e∧e.Fired.length≤4000:=by
 obtain⟨r,e1,h⟩:=Ed l hl hb
 obtain⟨e,r1,e2,h1,h2,h3⟩:=Hu k hk r 0 h qom
 obtain⟨s,r2,e3, -,g2⟩:=fO r1 [0,1,2,3,4,0,1,2,3,4,0,1,2,(-1),5] _ h1 qom (by simp)
 obtain⟨g,r3,e4, -,g3⟩:=fO r2 [1,1,1,2,3,20,0,21] _ g2 qom (by simp)
 obtain⟨v,r4,e5, -,g4⟩:=fO r3 [0,1,5,50,100,(-1),101] _ g3 qom (by simp)
 unfold gK.f
 rw[e1]
 simp only[qzb]
 rw[e2]
 simp only[qzb]
 rw[e3]
 simp only[qzb]
 rw[e4]
 simp only[qzb]
 rw[e5]
 exact⟨e,s,g,v,rfl,h2,h3⟩
/-- what holds of each firing holds of a call -/
structure GY (R:GEng→Graiser→GEng→Graiser→Prop):Prop where
 refl:∀e q,R e q e q
 trans:∀{a p b q c r},R a p b q→R b q c r→R a p c r
 graphs:∀(e:GEng) (q:Graiser) (gs:List GGraph),R e q ⟨e.Rules,gs,e.Events,e.Keys,e.Fired⟩ q
theorem wZ {R:GEng→Graiser→GEng→Graiser→Prop} (h:GY R) {C:GEng→Prop} (i:Nat) (h1:∀e q o,C e→R e q (eb e i o q).2.1 (eb e i o q).2.2∧C (eb e i o q).2.1):∀(l:List GOcc) (e:GEng) (q:Graiser),C e→R e q (fN i l e q).2.1 (fN i l e q).2.2∧C (fN i l e q).2.1
 |[],e,q,hc=>⟨h.refl e q,hc⟩
 |o::l,e,q,hc=>by
  obtain⟨a,b⟩:=h1 e q o hc
  unfold fN
  by_cases h0:(eb e i o q).1=0
  ·rw[if_pos h0]
   obtain⟨c,d⟩:=wZ h i h1 l _ (eb e i o q).2.2 b
   exact⟨h.trans a c,d⟩
  ·rw[if_neg h0];exact⟨a,b⟩
theorem wu {R:GEng→Graiser→GEng→Graiser→Prop} (h:GY R) {C:GEng→Prop} (hC:∀(e:GEng) gs,C e→C ⟨e.Rules,gs,e.Events,e.Keys,e.Fired⟩) (h1:∀e i q o,C e→R e q (eb e i o q).2.1 (eb e i o q).2.2∧C (eb e i o q).2.1) (x:GEv):∀(os:List Int) (e:GEng) (q:Graiser),C e→R e q (fP x os e q).2.1 (fP x os e q).2.2∧C (fP x os e q).2.1
 |[],e,q,hc=>⟨h.refl e q,hc⟩
 |i::os,e,q,hc=>by
  have one:R e q (kU x i.toNat e q).2.1 (kU x i.toNat e q).2.2∧C (kU x i.toNat e q).2.1:=by
   unfold kU
   cases e.Graphs[i.toNat]? with
   |none=>exact⟨h.refl e q,hc⟩
   |some g=>
    dsimp only
    cases iv g.Mode g.Seen g.Nodes x with
    |none=>exact⟨h.graphs e q _,hC e _ hc⟩
    |some r=>
     obtain⟨a,b⟩:=wZ h i.toNat (fun e q o hc=>h1 e _ q o hc) r.2 _ q (hC e (e.Graphs.set i.toNat ⟨g.Mode,r.1,g.Seen+1,x.At,false⟩) hc)
     exact⟨h.trans (h.graphs e q _) a,b⟩
  unfold fP
  by_cases h0:(kU x i.toNat e q).1=0
  ·rw[if_pos h0]
   obtain⟨a,b⟩:=wu h hC h1 x os _ (kU x i.toNat e q).2.2 one.2
   exact⟨h.trans one.1 a,b⟩
  ·rw[if_neg h0];exact one
/-- what holds of each change of an engine holds of a call -/
structure nN (S:GEng→GEng→Prop):Prop where
 refl:∀e,S e e
 trans:∀{a b c},S a b→S b c→S a c
 graphs:∀(e:GEng) (gs:List GGraph),S e ⟨e.Rules,gs,e.Events,e.Keys,e.Fired⟩
 event:∀(e:GEng) (x:GEv),S e ⟨e.Rules,e.Graphs,e.Events++[x],e.Keys,e.Fired⟩
 fire:∀(e:GEng) (i:Nat) (q:Graiser) (o:GOcc),S e (eb e i o q).2.1
theorem nN.kept {S:GEng→GEng→Prop} (h:nN S):GY (fun e _ f _=>S e f) where
 refl e q:=h.refl e
 trans a b:=h.trans a b
 graphs e q gs:=h.graphs e gs
theorem nN.process {S:GEng→GEng→Prop} (h:nN S) (e:GEng) (x:GEv) (q:Graiser):S e (bg e x q).2.1:=by
 unfold bg
 split
 ·exact h.refl e
 ·exact h.trans (h.event e x) (wu h.kept (C:=fun _=>True) (fun _ _ h=>h) (fun e i q o z=>⟨h.fire e i q o,z⟩) x (eF e.Rules) ⟨e.Rules,e.Graphs,e.Events++[x],e.Keys,e.Fired⟩ q trivial).1
theorem nN.loop {S:GEng→GEng→Prop} (h:nN S):∀(f:Nat) (e:GEng) (q:Graiser) (s:Int),S e (cq f e q s).2
 |0,e,q,s=>h.refl e
 |f+1,e,⟨[],rz⟩,s=>by rw[cq];exact h.refl e
 |f+1,e,⟨x::r,rz⟩,s=>by
  rw[cq]
  dsimp only
  have p:=h.process e ⟨x.Sym,aL e.Events+s,x.Val⟩ ⟨r,rz⟩
  by_cases h0:(bg e ⟨x.Sym,aL e.Events+s,x.Val⟩ ⟨r,rz⟩).1=0
  ·rw[if_pos h0];exact h.trans p (h.loop f _ _ 1)
  ·rw[if_neg h0];exact p
theorem nN.call {S:GEng→GEng→Prop} (h:nN S) (e:GEng) (s g v:Int):S e (cZ e s g v).1:=by
 unfold cZ
 split
 ·exact h.loop 8 e _ g
 ·exact h.refl e
def Ar (rs:List GRule) (j:Nat) (f:GFire):Int:=match rs[f.Rule.toNat]? with
 |some r=>if r.Key=(j:Int) then r.Add else 0
 |none=>0
def iw (rs:List GRule) (j:Nat):List GFire→Int
 |[]=>0
 |f::l=>Ar rs j f+iw rs j l
theorem Cf (rs:List GRule) (j:Nat):∀(a b:List GFire),iw rs j (a++b)=iw rs j a+iw rs j b
 |[],b=>by simp[iw]
 |f::a,b=>by rw[qzH,iw,iw,Cf rs j a b];omega
def IS (e f:GEng):Prop:=(∀r∈e.Rules,0≤r.Key∧r.Key≤3)→e.Keys.length=4→f.Rules=e.Rules∧f.Keys.length=4∧∃more,f.Fired=e.Fired++more∧∀j,j<4→f.Keys.getD j 0=e.Keys.getD j 0+iw e.Rules j more
theorem E5 (e:GEng) (i:Nat) (q:Graiser) (o:GOcc):IS e (eb e i o q).2.1:=fun hr hk=>by
 have none':e.Rules=e.Rules∧e.Keys.length=4∧∃more,e.Fired=e.Fired++more∧∀j,j<4→e.Keys.getD j 0=e.Keys.getD j 0+iw e.Rules j more:=⟨rfl,hk,[],by simp,fun j _=>by simp[iw]⟩
 unfold eb
 cases h1:e.Rules[i]? with
 |none=>exact none'
 |some r=>
  cases e.Events[(fm o).toNat]? with
  |none=>exact none'
  |some x=>
   have hrk:=hr r (qzI h1)
   have yes:e.Rules=e.Rules∧(e.Keys.set r.Key.toNat (e.Keys.getD r.Key.toNat 0+r.Add)).length=4∧∃more,e.Fired++[(⟨(i:Int),o⟩:GFire)]=e.Fired++more∧∀j,j<4→(e.Keys.set r.Key.toNat (e.Keys.getD r.Key.toNat 0+r.Add)).getD j 0=e.Keys.getD j 0+iw e.Rules j more:=by
    refine⟨rfl,by rw[List.length_set];exact hk,_,rfl,fun j hj=>?_⟩
    have e1:iw e.Rules j [⟨(i:Int),o⟩]=if r.Key=(j:Int) then r.Add else 0:=by
     simp only[iw,Ar,qzd,h1,Int.add_zero]
    rw[e1,qzt]
    by_cases hj':r.Key.toNat=j
    ·subst hj'
     rw[rY qom,if_pos qom];rfl
    ·rw[xA hj',if_neg qom,←qzt];omega
   dsimp only
   repeat' split
   all_goals first|exact none'|exact yes
theorem Et:nN IS where
 refl e:=fun _ hk=>⟨rfl,hk,[],by simp,fun j _=>by simp[iw]⟩
 trans {a b c} h g:=fun hr hk=>by
  obtain⟨h1,h2,m,h3,h4⟩:=h hr hk
  obtain⟨g1,g2,n,g3,g4⟩:=g (by rw[h1];exact hr) h2
  refine⟨g1.trans h1,g2,m++n,by rw[g3,h3,qzl],fun j hj=>?_⟩
  rw[g4 j hj,h4 j hj,h1,Cf];omega
 graphs e gs:=fun _ hk=>⟨rfl,hk,[],by simp,fun j _=>by simp[iw]⟩
 event e x:=fun _ hk=>⟨rfl,hk,[],by simp,fun j _=>by simp[iw]⟩
 fire:=E5
theorem EI {e:GEng} (h:fR e) (s g v:Int):(cZ e s g v).1.Rules=e.Rules∧(cZ e s g v).1.Keys.length=4∧∃more,(cZ e s g v).1.Fired=e.Fired++more∧∀j,j<4→(cZ e s g v).1.Keys.getD j 0=e.Keys.getD j 0+iw e.Rules j more:=
 Et.call e s g v (fun r hr=>(dp h.rules hr).key) h.keys.1
/-- a drawn call that ends well -/
theorem E7 {e:GEng} (hN:sG e) (hf:e.Fired.length≤4000) {s g v:Int} (hz:(gR e s g v).2.1=0) :
  fR e∧gD ⟨s,g,v⟩=true∧gR e s g v=cZ e s g v:=by
 have ho:kC e=true:=by
  cases q:kC e
  ·unfold gR at hz
   rw[if_neg (by rw[q];decide)] at hz
   exact absurd hz (show ¬(4:Int)=0 by decide)
  ·rfl
 have hc:gD ⟨s,g,v⟩=true:=by
  cases q:gD ⟨s,g,v⟩
  ·unfold gR at hz
   rw[if_pos ho,if_neg (by rw[q];decide)] at hz
   exact absurd hz (show ¬(4:Int)=0 by decide)
  ·rfl
 exact⟨Dg hN qom ho,hc,by unfold gR;rw[if_pos ho,if_pos hc]⟩
theorem DY {e:GEng} {s g v:Int} (hz:(cZ e s g v).2.1=0):(cZ e s g v).2.2=(cZ e s g v).1.Fired.drop e.Fired.length:=by
 unfold cZ at hz⊢
 by_cases h0:(cq 8 e ⟨[⟨s,0,v⟩],0⟩ g).1=0
 ·rw[if_pos h0]
 ·rw[if_neg h0] at hz;exact absurd hz h0
theorem DK (k:Nat) (j:Nat) (x4:GEng×Int×Int×Int) (x7:GEng×Int×(List GFire)) (hr:∀r∈x4.1.Rules, -9≤r.Add∧r.Add≤9) (hl:x7.2.2.length≤1000000) (hF:∀f∈x7.2.2,0≤f.Rule∧f.Rule<x4.1.Rules.length):∀(d i N:Nat) (a:Int),i+d=x7.2.2.length→d<N→ -1000-9 * (i:Int)≤a→a≤1000+9 * (i:Int)→
  bi.l3 k (j:Int) x4 x7 N a (i:Int)=some (a+iw x4.1.Rules j (x7.2.2.drop i)):=by
 intro d
 induction d with
 |zero=>
  intro i N a hi hN h1 h2
  obtain⟨N,rfl⟩:=qsc N
  rw[bi.l3,if_neg qom,qzn qom,iw,Int.add_zero]
 |succ d ih=>
  intro i N a hi hN h1 h2
  obtain⟨N,rfl⟩:=qsc N
  have hlt:i<x7.2.2.length:=by omega
  have hf:=hF _ (qze hlt)
  have hri:(x7.2.2[i]).Rule.toNat<x4.1.Rules.length:=by omega
  have ha:=hr _ (qze hri)
  rw[bi.l3,if_pos qom,ac qom,ac qom,qzd,qzc hlt]
  simp only[qzb]
  rw[ac qom,qzc hri]
  simp only[qzb]
  rw[wrS i qom,qzj hlt,iw]
  have e1:Ar x4.1.Rules j x7.2.2[i]=if(x4.1.Rules[(x7.2.2[i]).Rule.toNat]).Key=(j:Int) then(x4.1.Rules[(x7.2.2[i]).Rule.toNat]).Add else 0:=by
   unfold Ar;rw[qzc hri]
  rw[e1]
  by_cases hk:(x4.1.Rules[(x7.2.2[i]).Rule.toNat]).Key=(j:Int)
  ·rw[if_pos hk,if_pos hk,ac qom,ac qom,ac qom,wr _ qom,ih (i+1) N _ qom qom qom qom]
   congr 1;omega
  ·rw[if_neg hk,if_neg hk,ih (i+1) N _ qom qom qom qom]
   congr 1;omega
theorem yC (p0:List Int) (h0:∀y∈p0,0≤y∧y≤255):∃k,bi.f k p0=some true:=by
 obtain⟨k,hk⟩:∃k:Nat,k=2000000000000:=⟨_,rfl⟩
 refine⟨k,?_⟩
 unfold bi.f
 by_cases c0:1048576<(p0.length:Int)
 ·rw[if_pos c0]
 rw[if_neg c0]
 obtain⟨e,s,g,v,e1,hN,hF⟩:=DL k qom p0 qom h0
 obtain⟨c1,c2⟩:=AQ k qom hN qom s g v
 rw[e1]
 simp only[qzb]
 rw[c1]
 simp only[qzb]
 rw[c2]
 simp only[qzb,if_true]
 by_cases hz:(gR e s g v).2.1=0
 rotate_left
 ·rw[if_neg hz];simp
 rw[if_pos hz]
 obtain⟨hi,hc,hca⟩:=E7 hN hF hz
 rw[hca] at hz⊢
 obtain⟨d1,d2,d3,_⟩:=xb k qom hi hc
 obtain⟨g1,g2,more,g3,g4⟩:=EI hi s g v
 have hfi:=DY hz
 have hm:(cZ e s g v).2.2=more:=by rw[hfi,g3,List.drop_left]
 have hfl:=d2.fired.1
 have hev:=dV d2.evs
 have hkl:=hi.keys.1
 have L:=jQ 4 false (fun N i=>bi.l2 k (e,s,g,v) (cZ e s g v) N i) (fun N=>by rw[bi.l2,if_neg qom]) (fun N j hj=>by
  have hk0:=hi.keys.2 _ (qze (show j<e.Keys.length by omega))
  have hk1:=d2.keys.2 _ (qze (show j<(cZ e s g v).1.Keys.length by omega))
  have hg:=g4 j hj
  rw[qzt,qzc (show j<(cZ e s g v).1.Keys.length by omega),qzt,qzc (show j<e.Keys.length by omega)] at hg
  simp only[vo] at hg
  have I:=DK k j (e,s,g,v) (cZ e s g v) (fun r hr=>(dp hi.rules hr).add) (by rw[hm];rw[g3,qzg] at hfl;omega) (fun f hf=>by
   have:=(d2.fired.2 f (by rw[hm] at hf;rw[g3];exact ya _ hf)).1
   rw[d3] at this;exact this) (cZ e s g v).2.2.length 0 k e.Keys[j] (by simp) (by rw[hm];rw[g3,qzg] at hfl;omega) qom qom
  rw[show((0:Nat):Int)=0 from rfl,qzB,hm] at I
  rw[bi.l2,if_pos qom,ac qom,ac (by dsimp only;omega),qzd]
  dsimp only at I⊢
  rw[qzc (show j<e.Keys.length by omega)]
  simp only[qzb]
  rw[I]
  simp only[qzb]
  rw[ac qom,ac qom,qzc (show j<(cZ e s g v).1.Keys.length by omega)]
  simp only[qzb]
  rw[if_pos hg.symm,if_neg qom,if_neg qom,wrS j qom]) k qom
 rw[L]
 rfl
end Go.Proofs.YtlbnmldopjadoaaGreat
