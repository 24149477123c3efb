/- Plain lemmas about the functions over data; third part. -/
import Derived.Test.YtlbnmldopjadoaaGreatQ1
namespace Go.Proofs.YtlbnmldopjadoaaGreat
open Go Go.Vm
set_option linter.unusedVariables false
set_option linter.unusedSimpArgs false
theorem Ha {l:List GEv} (h:l.length≤1000):gX.f l=some (aF l):=by
 rw[(wG l qom).2]
 have a:=(wG l qom).1
 rw[tN l h] at a
 exact a.symm
theorem C0 (k:Nat) (hk:2000000000000≤k):∀(f N:Nat) (m:Int) (e:GEng) (q:Graiser),m<(f:Int)→m≤100→f<N→gb e→QI m q→
  ∃qs ra,cd.l0 k N e.Rules e.Graphs e.Events e.Keys e.Fired q.queue q.raised 0=some ((ci f e q 1).2.Rules,(ci f e q 1).2.Graphs,(ci f e q 1).2.Events,(ci f e q 1).2.Keys,(ci f e q 1).2.Fired,qs,ra,(ci f e q 1).1)
 |0,N,m,e,q,hf,_,_,_,hq=>by have:=hq.sum;have:=hq.raised;omega
 |f+1,N,m,e,q,hf,hm,hN,he,hq=>by
  obtain⟨N,rfl⟩:=qsc N
  have hev:=dS he.evs
  have hla:=jX he.evs
  have hqs:=hq.sum
  have hqr:=hq.raised
  rw[cd.l0,if_pos rfl]
  obtain⟨qq,rz⟩:=q
  cases hqq:qq with
  |nil=>
   dsimp only
   rw[if_neg (by simp),show ci (f+1) e ⟨[],rz⟩ 1=(0,e) from by rw[ci]]
   exact⟨_,_,rfl⟩
  |cons x r=>
   subst hqq
   dsimp only at hqs hqr⊢
   have hx:=hq.evs x (by simp)
   rw[if_pos (by simp),ac (by decide),ac (by simp)]
   simp only[qzs,qzb]
   rw[ac (by decide),ac (by simp only[qzm];omega),ac (mm _),Ha qom]
   simp only[qzb]
   rw[wr _ qom]
   have e1:((x::r).drop 1).take ((((x::r).length:Nat):Int)-1).toNat=r:=by
    simp only[List.drop_succ_cons,qzC]
    rw[qzE]
    simp only[qzm];omega
   rw[e1,show(⟨e.Rules,e.Graphs,e.Events,e.Keys,e.Fired⟩:GEng)=e from rfl]
   simp only[qzm] at hqs
   have hq':QI (m-1) ⟨r,rz⟩:=⟨fun z hz=>hq.evs z (by simp[hz]),hqr,by dsimp only;omega⟩
   have hx1:aF e.Events<aF e.Events+1∧aF e.Events+1≤1000000:=by omega
   obtain⟨_,p2⟩:=mV k qom he (x:=⟨x.Sym,aF e.Events+1,x.Val⟩) hx1 hx (m-1) qom hq'
   have p1:=Be k qom he (x:=⟨x.Sym,aF e.Events+1,x.Val⟩) hx1 hx (m-1) qom hq'
   rw[p1]
   simp only[qzb,qc]
   have hL:ci (f+1) e ⟨x::r,rz⟩ 1=if(aQ e ⟨x.Sym,aF e.Events+1,x.Val⟩ ⟨r,rz⟩).1=0 then ci f (aQ e ⟨x.Sym,aF e.Events+1,x.Val⟩ ⟨r,rz⟩).2.1 (aQ e ⟨x.Sym,aF e.Events+1,x.Val⟩ ⟨r,rz⟩).2.2 1
     else((aQ e ⟨x.Sym,aF e.Events+1,x.Val⟩ ⟨r,rz⟩).1,(aQ e ⟨x.Sym,aF e.Events+1,x.Val⟩ ⟨r,rz⟩).2.1):=by rw[ci]
   rw[hL]
   clear hL p1
   generalize aQ e ⟨x.Sym,aF e.Events+1,x.Val⟩ ⟨r,rz⟩=z at p2⊢
   by_cases hz:z.1=0
   ·rw[if_pos hz,hz]
    obtain⟨g1,g2,g3,g4,more,g5⟩:=p2 hz
    exact C0 k hk f N (m-1) z.2.1 z.2.2 qom qom qom g1 g2
   ·rw[if_neg hz]
    obtain⟨N,rfl⟩:=qsc N
    rw[cd.l0,if_neg hz]
    exact⟨_,_,rfl⟩
theorem HF (k:Nat) (hk:2000000000000≤k) {e:GEng} (h:gb e) {sym gap val:Int} (hc:fN ⟨sym,gap,val⟩=true) :
  cd.f k e sym gap val=some (fU e sym gap val):=by
 have hc':=hc
 unfold fN at hc
 simp only[qzf,decide_eq_true_eq] at hc
 have hev:=dS h.evs
 have hla:=jX h.evs
 have hkeys:=h.keys.1
 unfold cd.f
 rw[pw k hk (qv h)]
 have ho:=pB k hk (qv h)
 rw[AV k hk h] at ho
 rw[←pH ho]
 simp only[qzb,if_true]
 rw[if_neg qom,if_pos qom,if_neg qom,if_neg qom,if_neg qom,if_neg qom,vv k hk h]
 simp only[qzb]
 rw[Ha qom]
 simp only[qzb]
 rw[wr _ qom,show(⟨e.Rules,e.Graphs,e.Events,e.Keys,e.Fired⟩:GEng)=e from rfl]
 have hq:QI 6 ⟨[],0⟩:=⟨fun z hz=>by simp at hz,by dsimp only;omega,by simp⟩
 have hx1:aF e.Events<aF e.Events+gap∧aF e.Events+gap≤1000000:=by omega
 obtain⟨_,p2⟩:=mV k qom h (x:=⟨sym,aF e.Events+gap,val⟩) hx1 (by dsimp only;omega) 6 qom hq
 have p1:=Be k qom h (x:=⟨sym,aF e.Events+gap,val⟩) hx1 (by dsimp only;omega) 6 qom hq
 dsimp only at p1
 rw[p1]
 obtain⟨c1,c2,c3,⟨more,c4⟩,_⟩:=B7 k hk h hc'
 clear c1
 unfold fU at c2 c4⊢
 have hL:ci 8 e ⟨[⟨sym,0,val⟩],0⟩ gap=if(aQ e ⟨sym,aF e.Events+gap,val⟩ ⟨[],0⟩).1=0 then ci 7 (aQ e ⟨sym,aF e.Events+gap,val⟩ ⟨[],0⟩).2.1 (aQ e ⟨sym,aF e.Events+gap,val⟩ ⟨[],0⟩).2.2 1
   else((aQ e ⟨sym,aF e.Events+gap,val⟩ ⟨[],0⟩).1,(aQ e ⟨sym,aF e.Events+gap,val⟩ ⟨[],0⟩).2.1):=by rw[ci]
 rw[hL] at c2 c4⊢
 clear hL p1
 simp only[qzb,qc]
 generalize aQ e ⟨sym,aF e.Events+gap,val⟩ ⟨[],0⟩=z at p2 c2 c4⊢
 have fin:∀(w:Int×GEng),gb (if w.1=0 then(w.2,(0:Int),w.2.Fired.drop e.Fired.length) else(e,w.1,[])).1→(∃more,(if w.1=0 then(w.2,(0:Int),w.2.Fired.drop e.Fired.length) else(e,w.1,[])).1.Fired=e.Fired++more)→
   (if w.1=0 then((bL.f k ((⟨w.2.Rules,w.2.Graphs,w.2.Events,w.2.Keys,w.2.Fired⟩:GEng))).bind fun x112=>(req ((0:Int)≤(e.Fired.length:Int)) (req ((e.Fired.length:Int)≤((w.2.Fired.length:Nat):Int)) (req (((w.2.Fired.length:Nat):Int)≤((w.2.Fired.length:Nat):Int)) ((cW.f k ((w.2.Fired.drop e.Fired.length).take (((w.2.Fired.length:Nat):Int)-(e.Fired.length:Int)).toNat)).bind fun x118=>(some (x112,0,x118))))))) else(some (e,w.1,([]:List GFire))))=some (if w.1=0 then(w.2,(0:Int),w.2.Fired.drop e.Fired.length) else(e,w.1,[])):=by
  intro w a ⟨more,c⟩
  by_cases hw:w.1=0
  ·rw[if_pos hw] at a c⊢
   rw[if_pos hw]
   dsimp only at a c
   rw[show(⟨w.2.Rules,w.2.Graphs,w.2.Events,w.2.Keys,w.2.Fired⟩:GEng)=w.2 from rfl,vv k hk a]
   simp only[qzb]
   have hl:e.Fired.length≤w.2.Fired.length:=by rw[c,qzg];omega
   have hev:=dS a.evs
   have hfl:=a.fired.1
   have e1:(w.2.Fired.drop e.Fired.length).take (((w.2.Fired.length:Nat):Int)-(e.Fired.length:Int)).toNat=w.2.Fired.drop e.Fired.length:=qzE (by rw[qzI];omega)
   rw[ac qom,ac qom,ac (mm _),e1,Bb k hk _ (by rw[qzI];omega) (fun f hf=>by
    have:=cp ((eV f.Occ).1 (a.fired.2 f (pI hf)).2.1).2.2.2.2
    show f.Occ.Ids.length≤1000;omega)]
   rfl
  ·rw[if_neg hw,if_neg hw]
 by_cases hz:z.1=0
 ·rw[if_pos hz] at c2 c4⊢
  obtain⟨g1,g2,g3,g4,_⟩:=p2 hz
  obtain⟨qs,ra,l⟩:=C0 k hk 7 k 6 z.2.1 z.2.2 qom qom qom g1 g2
  rw[hz,l]
  simp only[qzb]
  exact fin _ c2 ⟨more,c4⟩
 ·rw[if_neg hz] at c2 c4⊢
  obtain⟨n,rfl⟩:∃n,k=n+1:=⟨k-1,by omega⟩
  rw[cd.l0,if_neg hz]
  simp only[qzb]
  exact fin (z.1,z.2.1) c2 ⟨more,c4⟩
/-- a call of the program and of the reference, of an engine that is nearly valid -/
def gR (e:GEng) (sym gap val:Int):GEng×Int×List GFire:=if lH e=true then(if fN ⟨sym,gap,val⟩=true then fU e sym gap val else(e,4,[])) else(⟨[],[],[],[],[]⟩,4,[])
theorem AQ (k:Nat) (hk:2000000000000≤k) {e:GEng} (h:vn e) (hf:e.Fired.length≤500000+2000 * e.Events.length) (sym gap val:Int) :
  fm.f k e sym gap val=some (gR e sym gap val)∧cd.f k e sym gap val=some (gR e sym gap val):=by
 unfold gR
 cases ho:lH e
 ·refine⟨?_,?_⟩
  ·unfold fm.f;rw[pB k hk h,ho];rfl
  ·unfold cd.f;rw[pw k hk h,ho];rfl
 have hi:=Dk h hf ho
 rw[if_pos rfl]
 by_cases hc:fN ⟨sym,gap,val⟩=true
 ·rw[if_pos hc]
  exact⟨(ED k hk hi hc).1,HF k hk hi hc⟩
 ·rw[if_neg hc]
  refine⟨?_,?_⟩
  ·unfold fm.f
   rw[pB k hk h,ho]
   simp only[qzb,if_true]
   rw[qb]
   simp only[qzb]
   rw[if_neg hc,pe k hk hi];rfl
  ·unfold cd.f
   rw[pw k hk h,ho]
   simp only[qzb,if_true]
   rw[vv k hk hi]
   unfold fN at hc
   simp only[qzf,decide_eq_true_eq] at hc
   simp only[qzb]
   repeat' split
   all_goals first|rfl|omega
theorem Cp {e:GEng} (h:gb e) {x:GEv} (hx:aF e.Events<x.At∧x.At≤1000000) (hs:0≤x.Sym∧x.Sym<5∧0≤x.Val∧x.Val≤100) (m:Int) (hm:m≤100) {q:Graiser} (hq:QI m q) (hl:e.Fired.length≤600000) (hz:(aQ e x q).1=0) :
  (aQ e x q).2.1.Fired.length≤e.Fired.length+160:=by
 have hev:=dS h.evs
 have hfew:=fj h.rules
 have hlast:=jX h.evs
 unfold aQ at hz⊢
 by_cases h1:e.Events.length=24∨1000<x.At
 ·rw[if_pos h1] at hz;exact absurd hz (show ¬(2:Int)=0 by decide)
 rw[if_neg h1] at hz⊢
 have hev':fI (e.Events++[x])=true:=rC h.evs qom (by
  unfold jV
  simp only[qzf,decide_eq_true_eq];omega) hx.1
 have hmid:Mid e x (eE e.Rules) ⟨e.Rules,e.Graphs,e.Events++[x],e.Keys,e.Fired⟩:=by
  refine⟨rfl,rfl,h.len,fun i hi=>rfl,fun i hi g hg=>?_⟩
  exfalso
  exact hi (jR.2 ⟨i,by have:=(List.getElem?_eq_some_iff.1 hg).1;rw[←h.len];exact this,rfl⟩)
 have hown:Own e.Fired.length ⟨e.Rules,e.Graphs,e.Events++[x],e.Keys,e.Fired⟩:=by
  refine⟨h.rules,hev',h.keys,qzh _,fun f hf=>?_⟩
  obtain⟨a,b,c⟩:=h.fired.2 f hf
  refine⟨a,b,c.mono ?_⟩
  dsimp only
  rw[qzg,qzo];omega
 obtain⟨_,r2⟩:=Df 1000000000000 qom h (x:=x) ⟨hx.1,by omega⟩ qom m hm (eE e.Rules) (fun i hi=>jR.1 hi) (mF _) (by rw[fx];exact hfew) (eE e.Rules).length 0 1000000000000 ⟨e.Rules,e.Graphs,e.Events++[x],e.Keys,e.Fired⟩ q _ qom (by rw[fx];omega) hmid hown (by rw[fx];omega) hq
 simp only[qzC] at r2
 have:=(r2 hz).2.1.fired.1
 rw[fx] at this
 omega
theorem AT:∀(f:Nat) (m:Int) (e:GEng) (q:Graiser) (s:Int),m≤100→gb e→QI m q→1≤s∧s≤20→e.Fired.length≤160 * e.Events.length→(ci f e q s).1=0→
  (ci f e q s).2.Fired.length≤160 * (ci f e q s).2.Events.length
 |0,m,e,q,s,hm,he,hq,hs,hl,hz=>hl
 |f+1,m,e,q,s,hm,he,hq,hs,hl,hz=>by
  obtain⟨qq,rz⟩:=q
  have hev:=dS he.evs
  have hla:=jX he.evs
  cases hqq:qq with
  |nil=>rw[show ci (f+1) e ⟨[],rz⟩ s=(0,e) from by rw[ci]];exact hl
  |cons x r=>
   subst hqq
   have hqs:=hq.sum
   have hqr:=hq.raised
   dsimp only at hqs hqr
   simp only[qzm] at hqs
   have hx:=hq.evs x (by simp)
   have hq':QI (m-1) ⟨r,rz⟩:=⟨fun z hz=>hq.evs z (by simp[hz]),hqr,by dsimp only;omega⟩
   have hx1:aF e.Events<aF e.Events+s∧aF e.Events+s≤1000000:=by omega
   obtain⟨_,p2⟩:=mV 1000000000000 qom he (x:=⟨x.Sym,aF e.Events+s,x.Val⟩) hx1 hx (m-1) qom hq'
   have p3:=Cp he (x:=⟨x.Sym,aF e.Events+s,x.Val⟩) hx1 hx (m-1) qom hq' qom
   rw[ci] at hz⊢
   dsimp only at hz⊢
   by_cases h0:(aQ e ⟨x.Sym,aF e.Events+s,x.Val⟩ ⟨r,rz⟩).1=0
   ·rw[if_pos h0] at hz⊢
    obtain⟨g1,g2,g3,g4,_⟩:=p2 h0
    have:=p3 h0
    exact AT f (m-1) _ _ 1 qom g1 g2 qom (by rw[g4,qzg,qzo];omega) hz
   ·rw[if_neg h0] at hz;exact absurd hz h0
structure xZ (e:GEng):Prop where
 ok:gb e
 few:e.Fired.length≤160 * e.Events.length
theorem ER {e:GEng} (h:xZ e) (sym gap val:Int):xZ (gR e sym gap val).1:=by
 unfold gR
 have ho:=pB 2000000000000 qom (qv h.ok)
 rw[AV 2000000000000 qom h.ok] at ho
 rw[if_pos (pH ho).symm]
 by_cases hc:fN ⟨sym,gap,val⟩=true
 ·rw[if_pos hc]
  obtain⟨_,c2,_⟩:=B7 2000000000000 qom h.ok hc
  refine⟨c2,?_⟩
  unfold fU
  unfold fN at hc
  simp only[qzf,decide_eq_true_eq] at hc
  have hq:QI 7 ⟨[⟨sym,0,val⟩],0⟩:=⟨fun z hz=>by rw[List.mem_singleton.1 hz];dsimp only;omega,by dsimp only;omega,by simp⟩
  by_cases hz:(ci 8 e ⟨[⟨sym,0,val⟩],0⟩ gap).1=0
  ·rw[if_pos hz]
   exact AT 8 7 e _ gap qom h.ok hq qom h.few hz
  ·rw[if_neg hz];exact h.few
 ·rw[if_neg hc];exact h
theorem II {l:List GRule} (h:dO l=true):xZ (qI l):=⟨HL h,by simp[qI]⟩
theorem Br {e:GEng} (h:xZ e):e.Fired.length≤3840∧e.Fired.length≤500000+2000 * e.Events.length:=by
 have:=h.few
 have:=dS h.ok.evs
 omega
theorem Eq (k:Nat) (hk:2000000000000≤k):∀(c n:Nat) (b:List Int) (p m:Int) (e:GEng),c<n→c≤6→dx ⟨b,p⟩ m→m+3 * c≤100000000→xZ e→
  ∃e' b' p',ep.l0 k n b p e.Rules e.Graphs e.Events e.Keys e.Fired (c:Int)=some (b',p',e'.Rules,e'.Graphs,e'.Events,e'.Keys,e'.Fired)∧dx ⟨b',p'⟩ (m+3 * c)∧xZ e':=by
 intro c
 induction c with
 |zero=>
  intro n b p m e hn _ hr hm he
  obtain⟨n,rfl⟩:=qsc n
  rw[ep.l0,if_neg qom]
  exact⟨e,_,_,rfl,by simpa using hr,he⟩
 |succ c ih=>
  intro n b p m e hn hc hr hm he
  obtain⟨n,rfl⟩:=qsc n
  obtain⟨v,r1,e1, -, -, -,h1⟩:=fv ⟨b,p⟩ 5 m hr qom qom
  obtain⟨g,r2,e2, -,h2⟩:=fP r1 [1,1,2,5] (m+1) h1 qom (by simp)
  obtain⟨w,r3,e3, -,h3⟩:=fP r2 [0,1,5,50] (m+1+1) h2 qom (by simp)
  rw[ep.l0,if_pos qom,e1]
  simp only[qzb]
  rw[e2]
  simp only[qzb]
  rw[e3]
  simp only[qzb]
  rw[show(⟨e.Rules,e.Graphs,e.Events,e.Keys,e.Fired⟩:GEng)=e from rfl,(AQ k hk (qv he.ok) (Br he).2 v g w).2]
  simp only[qzb]
  rw[wrP c qom]
  obtain⟨e',b',p',q1,q2,q3⟩:=ih n r3.b r3.p (m+1+1+1) (gR e v g w).1 qom qom h3 qom (ER he v g w)
  exact⟨e',b',p',q1,q2.mono qom,q3⟩
theorem DG (k:Nat):∀(c n:Nat) (b:List Int) (p m:Int) (acc:List Int) (s:Int),c<n→dx ⟨b,p⟩ m→m+c≤100000000→acc.length+c≤10→0≤s→s+4 * c≤1000→
  ∃l b' p',ez.l0 k n b p acc s (c:Int)=some (l,b',p')∧dx ⟨b',p'⟩ (m+c)∧l.length≤10:=by
 intro c
 induction c with
 |zero=>
  intro n b p m acc s hn hr hm ha h0 hs
  obtain⟨n,rfl⟩:=qsc n
  rw[ez.l0,if_neg qom]
  exact⟨_,_,_,rfl,by simpa using hr,by omega⟩
 |succ c ih=>
  intro n b p m acc s hn hr hm ha h0 hs
  obtain⟨n,rfl⟩:=qsc n
  obtain⟨v,r1,e1,v0,v1, -,h1⟩:=fv ⟨b,p⟩ 3 m hr qom qom
  have v1:=v1 qom
  rw[ez.l0,if_pos qom,ac qom,e1]
  simp only[qzb]
  rw[wr (s+1) qom,wr _ qom,wrP c qom]
  obtain⟨l,b',p',q1,q2,q3⟩:=ih n r1.b r1.p (m+1) (acc++[s]) (s+1+v) qom h1 qom (by rw[qzg,qzo];omega) qom qom
  exact⟨l,b',p',q1,q2.mono qom,q3⟩
theorem HK (k:Nat) (hk:1000≤k) (r:Gl14Rd) (m:Int) (hr:dx r m) (hm:m≤90000000):∃o r',ez.f k r=some (o,r')∧dx r' (m+100)∧o.Ids.length≤10:=by
 obtain⟨a,r1,e1,a0,a1, -,h1⟩:=fv r 9 m hr qom qom
 obtain⟨b,r2,e2,b0,h2⟩:=fP r1 [0,0,1,2,5] (m+1) h1 qom (by simp)
 obtain⟨c,r3,e3,c0,c1, -,h3⟩:=fv r2 3 (m+1+1) h2 qom qom
 obtain⟨d,r4,e4,d0,d1, -,h4⟩:=fv r3 3 (m+1+1+1) h3 qom qom
 have c1:=c1 qom
 have d1:=d1 qom
 obtain⟨d',rfl⟩:∃d':Nat,d=(d':Int):=⟨d.toNat,by omega⟩
 obtain⟨l,b',p',q1,q2,q3⟩:=DG k (d'+1) k r4.b r4.p (m+1+1+1+1) [] c qom h4 qom (by simp;omega) c0 qom
 unfold ez.f
 rw[e1]
 simp only[qzb]
 rw[e2]
 simp only[qzb]
 rw[e3]
 simp only[qzb]
 rw[e4]
 simp only[qzb]
 rw[wr (1+(d':Int)) qom,show(1:Int)+(d':Int)=((d'+1:Nat):Int) by omega,q1]
 exact⟨_,_,rfl,q2.mono qom,q3⟩
theorem Hx (k:Nat) (hk:2000000000000≤k) (r:Gl14Rd) (m:Int) (hr:dx r m) (hm:m≤30000000):∃e r',ep.f k r=some (e,r')∧dx r' (m+3000000)∧vn e∧e.Fired.length≤4000:=by
 obtain⟨l,r1,e1,h1,h2,h3,h4⟩:=EV k hk r m hr qom
 obtain⟨v,r2,e2,v0,v1, -,g2⟩:=fv r1 7 (m+2000000) h1 qom qom
 have v1:=v1 qom
 obtain⟨c,rfl⟩:∃c:Nat,v=(c:Int):=⟨v.toNat,by omega⟩
 obtain⟨e,b,p,q1,q2,q3⟩:=Eq k hk c k r2.b r2.p (m+2000000+1) (qI l) qom qom g2 qom (II h4)
 obtain⟨w,r3,e3, -, -, -,g3⟩:=fv ⟨b,p⟩ 50 (m+2000000+1+3 * c) q2 qom qom
 have hN:=qv q3.ok
 have hl:=(Br q3).1
 have hev:=dS q3.ok.evs
 have h4k:=q3.ok.keys.1
 unfold ep.f
 rw[e1]
 simp only[qzb]
 rw[HV k hk l qom (fun r hr=>(h3 r hr).1),if_pos h4]
 simp only[qzb]
 rw[e2]
 simp only[qzb]
 rw[q1]
 simp only[qzb]
 rw[e3]
 simp only[qzb]
 by_cases c0:w=0
 ·rw[if_pos c0]
  obtain⟨x,r4,e4, -,g4⟩:=fP r3 [(-1),1000,1001] _ g3 qom (by simp)
  rw[e4]
  simp only[qzb]
  rw[ac (by decide),ac qom,qzc qom]
  exact⟨_,_,rfl,g4.mono qom,⟨hN.rules,hN.graphs,hN.evs,by dsimp only;rw[List.length_set];omega,hN.fired⟩,by dsimp only;omega⟩
 rw[if_neg c0]
 by_cases c1:w=1
 ·rw[if_pos c1]
  exact⟨_,_,rfl,g3.mono qom,⟨hN.rules,⟨by simp,fun g hg=>by simp at hg⟩,hN.evs,hN.keys,hN.fired⟩,by dsimp only;omega⟩
 rw[if_neg c1]
 by_cases c2:w=2
 ·rw[if_pos c2,ac qom]
  exact⟨_,_,rfl,g3.mono qom,⟨hN.rules,hN.graphs,by dsimp only;rw[qzg,qzo];omega,hN.keys,hN.fired⟩,by dsimp only;omega⟩
 rw[if_neg c2]
 by_cases c3:w=3
 ·rw[if_pos c3]
  obtain⟨x,r4,e4, -, -, -,g4⟩:=fv r3 3 _ g3 qom qom
  obtain⟨o,r5,e5,g5,ho⟩:=HK k qom r4 _ g4 qom
  rw[e4]
  simp only[qzb]
  rw[e5]
  simp only[qzb]
  rw[ac qom]
  refine⟨_,_,rfl,g5.mono qom,⟨hN.rules,hN.graphs,hN.evs,hN.keys,by dsimp only;rw[qzg,qzo];omega,fun f hf=>?_⟩,by dsimp only;rw[qzg,qzo];omega⟩
  rcases List.mem_append.1 hf with q|q
  ·exact hN.fired.2 f q
  ·rw[List.mem_singleton.1 q];show o.Ids.length≤1000;omega
 rw[if_neg c3]
 by_cases c4:w=4
 ·rw[if_pos c4]
  by_cases c5:0<((e.Fired.length:Nat):Int)
  ·rw[if_pos c5,ac (by decide),ac qom,ac (mm _)]
   refine⟨_,_,rfl,g3.mono qom,⟨hN.rules,hN.graphs,hN.evs,hN.keys,?_,fun f hf=>hN.fired.2 f (pI (pF hf))⟩,?_⟩
   ·dsimp only;rw[qzO,qzI];omega
   ·dsimp only;rw[qzO,qzI];omega
  ·rw[if_neg c5]
   exact⟨_,_,rfl,g3.mono qom,hN,show e.Fired.length≤4000 by omega⟩
 ·rw[if_neg c4]
  exact⟨_,_,rfl,g3.mono qom,hN,show e.Fired.length≤4000 by omega⟩
theorem DR (k:Nat) (hk:2000000000000≤k) (l:List Int) (hl:l.length≤1048576) (hb:∀y∈l,0≤y∧y≤255):∃e s g v,gK.f k l=some (e,s,g,v)∧vn e∧e.Fired.length≤4000:=by
 obtain⟨r,e1,h⟩:=Ek l hl hb
 obtain⟨e,r1,e2,h1,h2,h3⟩:=Hx k hk r 0 h qom
 obtain⟨s,r2,e3, -,g2⟩:=fP r1 [0,1,2,3,4,0,1,2,3,4,0,1,2,(-1),5] _ h1 qom (by simp)
 obtain⟨g,r3,e4, -,g3⟩:=fP r2 [1,1,1,2,3,20,0,21] _ g2 qom (by simp)
 obtain⟨v,r4,e5, -,g4⟩:=fP r3 [0,1,5,50,100,(-1),101] _ g3 qom (by simp)
 unfold gK.f
 rw[e1]
 simp only[qzb]
 rw[e2]
 simp only[qzb]
 rw[e3]
 simp only[qzb]
 rw[e4]
 simp only[qzb]
 rw[e5]
 exact⟨e,s,g,v,rfl,h2,h3⟩
/-- what holds of each firing holds of a call -/
structure G1 (R:GEng→Graiser→GEng→Graiser→Prop):Prop where
 refl:∀e q,R e q e q
 trans:∀{a p b q c r},R a p b q→R b q c r→R a p c r
 graphs:∀(e:GEng) (q:Graiser) (gs:List GGraph),R e q ⟨e.Rules,gs,e.Events,e.Keys,e.Fired⟩ q
theorem w9 {R:GEng→Graiser→GEng→Graiser→Prop} (h:G1 R) {C:GEng→Prop} (i:Nat) (h1:∀e q o,C e→R e q (dU e i o q).2.1 (dU e i o q).2.2∧C (dU e i o q).2.1):∀(l:List GOcc) (e:GEng) (q:Graiser),C e→R e q (fO i l e q).2.1 (fO i l e q).2.2∧C (fO i l e q).2.1
 |[],e,q,hc=>⟨h.refl e q,hc⟩
 |o::l,e,q,hc=>by
  obtain⟨a,b⟩:=h1 e q o hc
  unfold fO
  by_cases h0:(dU e i o q).1=0
  ·rw[if_pos h0]
   obtain⟨c,d⟩:=w9 h i h1 l _ (dU e i o q).2.2 b
   exact⟨h.trans a c,d⟩
  ·rw[if_neg h0];exact⟨a,b⟩
theorem ww {R:GEng→Graiser→GEng→Graiser→Prop} (h:G1 R) {C:GEng→Prop} (hC:∀(e:GEng) gs,C e→C ⟨e.Rules,gs,e.Events,e.Keys,e.Fired⟩) (h1:∀e i q o,C e→R e q (dU e i o q).2.1 (dU e i o q).2.2∧C (dU e i o q).2.1) (x:GEv):∀(os:List Int) (e:GEng) (q:Graiser),C e→R e q (fQ x os e q).2.1 (fQ x os e q).2.2∧C (fQ x os e q).2.1
 |[],e,q,hc=>⟨h.refl e q,hc⟩
 |i::os,e,q,hc=>by
  have one:R e q (kR x i.toNat e q).2.1 (kR x i.toNat e q).2.2∧C (kR x i.toNat e q).2.1:=by
   unfold kR
   cases e.Graphs[i.toNat]? with
   |none=>exact⟨h.refl e q,hc⟩
   |some g=>
    dsimp only
    cases iv g.Mode g.Seen g.Nodes x with
    |none=>exact⟨h.graphs e q _,hC e _ hc⟩
    |some r=>
     obtain⟨a,b⟩:=w9 h i.toNat (fun e q o hc=>h1 e _ q o hc) r.2 _ q (hC e (e.Graphs.set i.toNat ⟨g.Mode,r.1,g.Seen+1,x.At,false⟩) hc)
     exact⟨h.trans (h.graphs e q _) a,b⟩
  unfold fQ
  by_cases h0:(kR x i.toNat e q).1=0
  ·rw[if_pos h0]
   obtain⟨a,b⟩:=ww h hC h1 x os _ (kR x i.toNat e q).2.2 one.2
   exact⟨h.trans one.1 a,b⟩
  ·rw[if_neg h0];exact one
/-- rules that raise nothing leave the queue as it is -/
def Fc (e:GEng) (p:Graiser) (f:GEng) (q:Graiser):Prop:=(∀r∈e.Rules,r.Raise<0)→q=p∧f.Rules=e.Rules
theorem DN:G1 Fc where
 refl e q:=fun _=>⟨rfl,rfl⟩
 trans h g:=fun z=>by
  obtain⟨a,b⟩:=h z
  obtain⟨c,d⟩:=g (by rw[b];exact z)
  exact⟨c.trans a,d.trans b⟩
 graphs e q gs:=fun _=>⟨rfl,rfl⟩
theorem Dq (e:GEng) (i:Nat) (q:Graiser) (o:GOcc):Fc e q (dU e i o q).2.1 (dU e i o q).2.2:=fun z=>by
 unfold dU
 cases h1:e.Rules[i]? with
 |none=>exact⟨rfl,rfl⟩
 |some r=>
  cases e.Events[(fo o).toNat]? with
  |none=>exact⟨rfl,rfl⟩
  |some x=>
   dsimp only
   have:=z r (qzL h1)
   repeat' split
   all_goals first|exact⟨rfl,rfl⟩|omega
theorem zB (e:GEng) (x:GEv) (q:Graiser) (h:∀r∈e.Rules,r.Raise<0):(aQ e x q).2.2=q:=by
 unfold aQ
 split
 ·rfl
 ·exact((ww DN (C:=fun _=>True) (fun _ _ h=>h) (fun e i q o h=>⟨Dq e i q o,h⟩) x (eE e.Rules) ⟨e.Rules,e.Graphs,e.Events++[x],e.Keys,e.Fired⟩ q trivial).1 h).1
theorem D0 {e:GEng} (h:gb e) {sym gap val:Int} (hc:fN ⟨sym,gap,val⟩=true) (hr:∀r∈e.Rules,r.Raise<0) (h0:(fU e sym gap val).2.1=0):(fU e sym gap val).1.Events.length=e.Events.length+1:=by
 unfold fN at hc
 simp only[qzf,decide_eq_true_eq] at hc
 have hla:=jX h.evs
 have hq:QI 6 ⟨[],0⟩:=⟨fun z hz=>by simp at hz,by dsimp only;omega,by simp⟩
 have hx1:aF e.Events<aF e.Events+gap∧aF e.Events+gap≤1000000:=by omega
 obtain⟨_,p2⟩:=mV 1000000000000 qom h (x:=⟨sym,aF e.Events+gap,val⟩) hx1 (by dsimp only;omega) 6 qom hq
 have p3:=zB e ⟨sym,aF e.Events+gap,val⟩ ⟨[],0⟩ hr
 unfold fU at h0⊢
 have hL:ci 8 e ⟨[⟨sym,0,val⟩],0⟩ gap=if(aQ e ⟨sym,aF e.Events+gap,val⟩ ⟨[],0⟩).1=0 then ci 7 (aQ e ⟨sym,aF e.Events+gap,val⟩ ⟨[],0⟩).2.1 (aQ e ⟨sym,aF e.Events+gap,val⟩ ⟨[],0⟩).2.2 1
   else((aQ e ⟨sym,aF e.Events+gap,val⟩ ⟨[],0⟩).1,(aQ e ⟨sym,aF e.Events+gap,val⟩ ⟨[],0⟩).2.1):=by rw[ci]
 rw[hL,p3] at h0⊢
 clear hL p3
 generalize aQ e ⟨sym,aF e.Events+gap,val⟩ ⟨[],0⟩=z at p2 h0⊢
 by_cases hz:z.1=0
 ·rw[if_pos hz] at h0⊢
  obtain⟨_,_,_,g4,_⟩:=p2 hz
  rw[show ci 7 z.2.1 ⟨[],0⟩ 1=(0,z.2.1) from by rw[ci]] at h0⊢
  rw[if_pos (show(0,z.2.1).1=(0:Int) from rfl)]
  dsimp only
  rw[g4,qzg,qzo]
 ·rw[if_neg hz] at h0⊢
  rw[if_neg hz] at h0
  exact absurd h0 hz
/-- what holds of each change of an engine holds of a call -/
structure KeptE (S:GEng→GEng→Prop):Prop where
 refl:∀e,S e e
 trans:∀{a b c},S a b→S b c→S a c
 graphs:∀(e:GEng) (gs:List GGraph),S e ⟨e.Rules,gs,e.Events,e.Keys,e.Fired⟩
 event:∀(e:GEng) (x:GEv),S e ⟨e.Rules,e.Graphs,e.Events++[x],e.Keys,e.Fired⟩
 fire:∀(e:GEng) (i:Nat) (q:Graiser) (o:GOcc),S e (dU e i o q).2.1
theorem DI (k:Nat) (x4:GEng×Int×Int×Int) (hl:x4.1.Rules.length≤1000):∀(d i N:Nat) (s:Bool),i+d=x4.1.Rules.length→d<N→∃b,bG.l0 k x4 N s (i:Int)=some b∧(b=false→∀j r,i≤j→x4.1.Rules[j]? =some r→r.Raise<0):=by
 intro d
 induction d with
 |zero=>
  intro i N s hi hN
  obtain⟨N,rfl⟩:=qsc N
  rw[bG.l0,if_neg qom]
  refine⟨s,rfl,fun _ j r hj hr=>?_⟩
  have:=(List.getElem?_eq_some_iff.1 hr).1
  omega
 |succ d ih=>
  intro i N s hi hN
  obtain⟨N,rfl⟩:=qsc N
  have hlt:i<x4.1.Rules.length:=by omega
  rw[bG.l0,if_pos qom,wrS i qom]
  have low:∀(N i:Nat) (d:Nat),i+d=x4.1.Rules.length→d<N→bG.l0 k x4 N true (i:Int)=some true:=fun N i d=>by
   induction d generalizing N i with
   |zero=>
    intro hi hN
    obtain⟨N,rfl⟩:=qsc N
    rw[bG.l0,if_neg qom]
   |succ d ih=>
    intro hi hN
    obtain⟨N,rfl⟩:=qsc N
    rw[bG.l0,if_pos qom,if_pos rfl,wrS i qom]
    exact ih N (i+1) qom qom
  by_cases hs:s=true
  ·rw[if_pos hs]
   exact⟨true,low N (i+1) d qom qom,fun q=>by simp at q⟩
  ·rw[if_neg hs,ac qom,qzd,qzc hlt]
   simp only[qzb]
   by_cases hr:(x4.1.Rules[i]).Raise<0
   ·rw[decide_eq_true hr]
    obtain⟨b,h1,h2⟩:=ih (i+1) N (!true) qom qom
    refine⟨b,h1,fun q j r hj hr'=>?_⟩
    by_cases e:j=i
    ·subst e
     rw[qzc hlt] at hr'
     cases hr'
     exact hr
    ·exact h2 q j r qom hr'
   ·rw[decide_eq_false hr]
    exact⟨true,low N (i+1) d qom qom,fun q=>by simp at q⟩
theorem wD (p0:List Int) (h0:∀y∈p0,0≤y∧y≤255):∃k,bG.f k p0=some true:=by
 obtain⟨k,hk⟩:∃k:Nat,k=2000000000000:=⟨_,rfl⟩
 refine⟨k,?_⟩
 unfold bG.f
 by_cases c0:1048576<(p0.length:Int)
 ·rw[if_pos c0]
 rw[if_neg c0]
 obtain⟨e,s,g,v,e1,hN,hF⟩:=DR k qom p0 qom h0
 have hf:e.Fired.length≤500000+2000 * e.Events.length:=by omega
 obtain⟨c1,c2⟩:=AQ k qom hN hf s g v
 rw[e1]
 simp only[qzb]
 rw[c1]
 simp only[qzb]
 rw[c2]
 simp only[qzb,if_true]
 rw[pw k qom hN]
 simp only[qzb]
 cases ho:lH e
 ·rw[if_neg (by decide)];simp
 rw[if_pos rfl]
 have hi:=Dk hN hf ho
 by_cases hz:(gR e s g v).2.1=0
 ·rw[if_pos hz]
  have hc:fN ⟨s,g,v⟩=true:=by
   cases q:fN ⟨s,g,v⟩
   ·unfold gR at hz
    rw[if_pos ho,if_neg (by rw[q];decide)] at hz
    exact absurd hz (show ¬(4:Int)=0 by decide)
   ·rfl
  have hca:gR e s g v=fU e s g v:=by unfold gR;rw[if_pos ho,if_pos hc]
  have hev:=dS hi.evs
  obtain⟨b,b1,b2⟩:=DI k (e,s,g,v) (by have:=fj hi.rules;dsimp only;omega) e.Rules.length 0 k false (by simp) (by have:=fj hi.rules;omega)
  rw[show((0:Nat):Int)=0 from rfl] at b1
  rw[b1]
  simp only[qzb]
  cases b
  ·rw[if_neg (by decide),wr _ qom]
   rw[hca] at hz⊢
   rw[D0 hi hc (fun r hr=>by obtain⟨j,hj⟩:=List.mem_iff_getElem?.1 hr;exact b2 rfl j r qom hj) hz]
   simp
  ·rfl
 ·rw[if_neg hz]
  have hx:(gR e s g v).1=e:=by
   unfold gR at hz⊢
   rw[if_pos ho] at hz⊢
   by_cases hc:fN ⟨s,g,v⟩=true
   ·rw[if_pos hc] at hz⊢
    unfold fU at hz⊢
    by_cases hl:(ci 8 e ⟨[⟨s,0,v⟩],0⟩ g).1=0
    ·rw[if_pos hl] at hz;exact absurd rfl hz
    ·rw[if_neg hl]
   ·rw[if_neg hc]
  rw[hx,c1]
  simp
end Go.Proofs.YtlbnmldopjadoaaGreat
