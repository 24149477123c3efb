/- Plain lemmas about the functions over data; second part. -/
import Derived.Test.YtlbnmldopjadoaaGreatQ0
import Derived.Laws.Strings
namespace Go.Proofs.YtlbnmldopjadoaaGreat
open Go Go.Vm
set_option linter.unusedVariables false
set_option linter.unusedSimpArgs false
def ir (t:Int) (l:List GOcc):Int:=l.foldl (fun t o=>if o.To<t then o.To else t) t
/-- the first time before another one at which something is due, or that one -/
def bW (ns:List GNode) (before:Int):Int:=ns.foldl (fun t n=>ir t n.Due) before
theorem A8:∀(l:List GOcc) (t:Int),ir t l≤t∧∀o∈l,ir t l≤o.To
 |[],t=>⟨mm _,fun o h=>by simp at h⟩
 |x::l,t=>by
  have ih:=A8 l (if x.To<t then x.To else t)
  show ir (if x.To<t then x.To else t) l≤t∧∀o∈x::l,ir (if x.To<t then x.To else t) l≤o.To
  refine⟨Int.le_trans ih.1 (by split <;> omega),fun o ho=>?_⟩
  rcases qzp.1 ho with rfl|ho
  ·exact Int.le_trans ih.1 (by split <;> omega)
  ·exact ih.2 o ho
theorem Bk:∀(l:List GOcc) (t:Int),ir t l=t∨∃o∈l,ir t l=o.To
 |[],t=>.inl rfl
 |x::l,t=>by
  show ir (if x.To<t then x.To else t) l=t∨∃o∈x::l,ir (if x.To<t then x.To else t) l=o.To
  rcases Bk l (if x.To<t then x.To else t) with h|⟨o,h1,h2⟩
  ·split at h
   ·rename_i hx;rw[if_pos hx];exact .inr ⟨x,by simp,h⟩
   ·rename_i hx;rw[if_neg hx];exact .inl h
  ·exact .inr ⟨o,by simp[h1],h2⟩
theorem oE:∀(ns:List GNode) (b:Int),bW ns b≤b∧∀n∈ns,∀o∈n.Due,bW ns b≤o.To
 |[],b=>⟨mm _,fun n h=>by simp at h⟩
 |x::ns,b=>by
  have ih:=oE ns (ir b x.Due)
  have m:=A8 x.Due b
  refine⟨Int.le_trans ih.1 m.1,fun n hn o ho=>?_⟩
  rcases qzp.1 hn with rfl|hn
  ·exact Int.le_trans ih.1 (m.2 o ho)
  ·exact ih.2 n hn o ho
theorem oz:∀(ns:List GNode) (b:Int),bW ns b=b∨∃n∈ns,∃o∈n.Due,bW ns b=o.To
 |[],b=>.inl rfl
 |x::ns,b=>by
  show bW ns (ir b x.Due)=b∨∃n∈x::ns,∃o∈n.Due,bW ns (ir b x.Due)=o.To
  rcases oz ns (ir b x.Due) with h|⟨n,h1,o,h2,h3⟩
  ·rcases Bk x.Due b with q|⟨o,q1,q2⟩
   ·exact .inl (h.trans q)
   ·exact .inr ⟨x,by simp,o,q1,h.trans q2⟩
  ·exact .inr ⟨n,by simp[h1],o,h2,h3⟩
def gP (found:List (List GOcc)):List GOcc:=found.getLast?.getD []
def cK (mode seen before:Int):Nat→List GNode→List GOcc→List GNode×Bool×List GOcc
 |0,ns,out=>(ns,false,out)
 |f+1,ns,out=>if bW ns before<before then
   (if dw (ax mode seen (bW ns before) none ns).1=true then((ax mode seen (bW ns before) none ns).1,true,out++gP (ax mode seen (bW ns before) none ns).2)
    else cK mode seen before f (ax mode seen (bW ns before) none ns).1 (out++gP (ax mode seen (bW ns before) none ns).2))
  else(ns,false,out)
/-- an event: nothing, if there is too much -/
def iv (mode seen:Int) (ns:List GNode) (e:GEv):Option (List GNode×List GOcc):=
 if(cK mode seen e.At 1001 ns []).2.1=true then none
 else if dw (ax mode seen e.At (some e.Sym) (cK mode seen e.At 1001 ns []).1).1=true then none
 else some ((ax mode seen e.At (some e.Sym) (cK mode seen e.At 1001 ns []).1).1,(cK mode seen e.At 1001 ns []).2.2++gP (ax mode seen e.At (some e.Sym) (cK mode seen e.At 1001 ns []).1).2)
theorem B5 {found:List (List GOcc)} (h:1≤found.length):found[found.length-1]? =some (gP found):=by
 unfold gP
 rw[qzU,qzc qom];rfl
theorem lu {t:Int} {mode seen:Int} {ev:Option Int} {es:List GEx} {ns:List GNode} (hR:mK t es ns) (h1:1≤ns.length) (hs:0≤seen∧seen≤23):∃e,gO e∧FO t (exN e) (gP (ax mode seen t ev ns).2):=by
 have pl:=gz mode seen t ev ns
 have hl:=B5 (found:=(ax mode seen t ev ns).2) qom
 obtain⟨e,he,hf⟩:=uo (mode:=mode) (ev:=ev) hR hs _ _ hl
 have hi:(ax mode seen t ev ns).2.length-1<ns.length:=by omega
 obtain⟨e',he',hx,_⟩:=hR.1.2 _ _ (qzc hi)
 rw[he] at he';cases he'
 exact⟨e,hx,hf⟩
theorem qT {t:Int} {mode seen:Int} {ev:Option Int} {es:List GEx} {ns:List GNode} (hR:mK t es ns) (h1:1≤ns.length) (hs:0≤seen∧seen≤23) (hf:dw (ax mode seen t ev ns).1=false):(gP (ax mode seen t ev ns).2).length≤40:=by
 have pl:=gz mode seen t ev ns
 have hl:=B5 (found:=(ax mode seen t ev ns).2) qom
 have hi:ns.length-1<ns.length:=by omega
 obtain⟨p1,p2⟩:=ng (mode:=mode) (seen:=seen) (t:=t) (ev:=ev) hR.1 (qzc hi)
 rw[pl.2,p2] at hl
 have hl:=pH hl
 have:=AY hf _ (qzL p1)
 have h0:=(hR.2.2 _ (qze hi)).2.2.2.2.2.1
 have k5:=(ke (mode:=mode) (seen:=seen) (t:=t) (ev:=ev) (found:=(ax mode seen t ev ns).2) (n:=ns[ns.length-1])).2.2.2.2
 rw[←hl]
 have this:(aw mode seen t ev (ax mode seen t ev ns).2 ns[ns.length-1]).1.Many+((aw mode seen t ev (ax mode seen t ev ns).2 ns[ns.length-1]).2.length:Int)≤40:=this
 rw[k5] at this
 omega
/-- all that is due before an event -/
theorem oT {mode seen before:Int} {es:List GEx} (hs:0≤seen∧seen≤23):∀(f:Nat) (ns:List GNode) (out:List GOcc) (T:Int),gl T es ns→T<before→(before-T).toNat≤f→Ids out→out.length+40 * f≤1000000→
  (cK mode seen before f ns out).2.1=false→∃T',T≤T'∧T'<before∧gl T' es (cK mode seen before f ns out).1∧(∀n∈(cK mode seen before f ns out).1,∀o∈n.Due,before≤o.To)∧Ids (cK mode seen before f ns out).2.2∧(cK mode seen before f ns out).2.2.length≤1000000
 |0,ns,out,T,h,hT,hf,_,_,_=>by omega
 |f+1,ns,out,T,h,hT,hf,ho,hol,hno=>by
  have nl:=oE ns before
  unfold cK at hno⊢
  by_cases hlt:bW ns before<before
  ·rw[if_pos hlt] at hno⊢
   by_cases hfu:dw (ax mode seen (bW ns before) none ns).1=true
   ·rw[if_pos hfu] at hno;cases hno
   ·rw[if_neg hfu] at hno⊢
    have hT':T<bW ns before:=by
     rcases oz ns before with q|⟨n,q1,o,q2,q3⟩
     ·omega
     ·rw[q3];exact((h.2.2 n q1).2.2.2.1 o q2).1
    have hfu':dw (ax mode seen (bW ns before) none ns).1=false:=by simpa using hfu
    have hR:=h.ready (t:=bW ns before) qom
    have pi:=mW (mode:=mode) (ev:=none) h (Int.le_of_lt hT') nl.2 hs hfu'
    obtain⟨e,_,lf⟩:=lu (mode:=mode) (ev:=none) hR h.2.1.1 hs
    have ll:=qT (mode:=mode) (ev:=none) hR h.2.1.1 hs hfu'
    obtain⟨T',a,b,c⟩:=oT hs f _ (out++gP (ax mode seen (bW ns before) none ns).2) (bW ns before) pi hlt qom
     (fun o hh=>by rcases List.mem_append.1 hh with q|q;exact ho o q;exact lf.2.1 o q) (by rw[qzg];omega) hno
    exact⟨T',by omega,b,c⟩
  ·rw[if_neg hlt] at hno⊢
   exact⟨T,mm _,hT,h,fun n hn o hh=>by have:=nl.2 n hn o hh;omega,ho,show out.length≤1000000 by omega⟩
theorem GG {mode seen:Int} {es:List GEx} {ns ns':List GNode} {e:GEv} {out:List GOcc} {T:Int} (h:gl T es ns) (hT:0≤T∧T<e.At∧e.At≤1000) (hs:0≤seen∧seen≤23) (hst:iv mode seen ns e=some (ns',out)) :
  gl e.At es ns'∧Ids out∧out.length≤1000040:=by
 unfold iv at hst
 split at hst
 ·cases hst
 split at hst
 ·cases hst
 rename_i h1 h2
 cases hst
 obtain⟨T',a,b,c,d,f,g⟩:=oT (mode:=mode) (before:=e.At) hs 1001 ns [] T h hT.2.1 qom (fun o hh=>by simp at hh) (by simp) (by simpa using h1)
 have h2':dw (ax mode seen e.At (some e.Sym) (cK mode seen e.At 1001 ns []).1).1=false:=by simpa using h2
 have hR:=c.ready (t:=e.At) qom
 obtain⟨x,_,lf⟩:=lu (mode:=mode) (ev:=some e.Sym) hR c.2.1.1 hs
 have ll:=qT (mode:=mode) (ev:=some e.Sym) hR c.2.1.1 hs h2'
 refine⟨mW c qom d hs h2',fun o hh=>?_,by rw[qzg];omega⟩
 rcases List.mem_append.1 hh with q|q
 ·exact f o q
 ·exact lf.2.1 o q
theorem wK {mode seen t:Int} {ev:Option Int} {es:List GEx} {nodes:List GNode} (hR:mK t es nodes) (hs:0≤seen∧seen≤23) (full0:Bool) (L:Nat→List GNode→Bool→List (List GOcc)→Int→Option (List (List GOcc)×List GNode×Bool))
  (hend:∀N ns full found,L (N+1) ns full found (nodes.length:Int)=some (found,ns,full))
  (hstep:∀(N i:Nat) (ns:List GNode) (full:Bool) (found:List (List GOcc)) (n:GNode) (e:GEx),i<nodes.length→ns.length=nodes.length→ns[i]? =some n→gO e→lI es i n e→ly t n→found.length=i→ju t es found→
   L (N+1) ns full found (i:Int)=L N (ns.set i (eO (aw mode seen t ev found n))) (full||decide (40<(eO (aw mode seen t ev found n)).Many)) (found++[(aw mode seen t ev found n).2]) ((i+1:Nat):Int)) :
  ∀(d N i:Nat),i+d=nodes.length→d<N→L N ((fy mode seen t ev nodes i).1++nodes.drop i) (full0||dw (fy mode seen t ev nodes i).1) (fy mode seen t ev nodes i).2 (i:Int)=some ((ax mode seen t ev nodes).2,(ax mode seen t ev nodes).1,full0||dw (ax mode seen t ev nodes).1):=by
 intro d
 induction d with
 |zero=>
  intro N i hi hN
  obtain⟨N,rfl⟩:=qsc N
  have:i=nodes.length:=by omega
  subst this
  rw[hend,oP,xS,qzV]
 |succ d ih=>
  intro N i hi hN
  obtain⟨N,rfl⟩:=qsc N
  have hlt:i<nodes.length:=by omega
  have hl:=j7 (mode:=mode) (seen:=seen) (t:=t) (ev:=ev) (ns:=nodes) (i:=i) qom
  obtain⟨e,he,hx,hr⟩:=hR.1.2 i nodes[i] (qzc hlt)
  have hn:((fy mode seen t ev nodes i).1++nodes.drop i)[i]? =some nodes[i]:=by
   rw[qzt qom,hl.1,qzW,qzj hlt];rfl
  rw[hstep N i _ _ _ nodes[i] e hlt (by rw[qzg,qzI,hl.1];omega) hn hx hr (hR.2.2 _ (qze _)) hl.2 (nK hR hs qom)]
  have:=ih N (i+1) qom qom
  rw[lA hlt] at this
  simp only[nU] at this
  rw[←this,qzj hlt,List.set_append_right _ _ qom,hl.1,qzW,List.set_cons_zero,qzl,List.singleton_append]
  congr 1
  unfold dw
  rw[List.any_append,Bool.or_assoc]
  simp
theorem vA {found:List (List GOcc)} {m:Nat} (h:found.length=m) (h1:1≤m) (h2:m≤1000) :
  (req ((0:Int)≤(IntKind.wrap .i64 (((found.length:Nat):Int)-1))) (req ((IntKind.wrap .i64 (((found.length:Nat):Int)-1))<(found.length:Nat)) (found[(IntKind.wrap .i64 (((found.length:Nat):Int)-1)).toNat]?)))=some (gP found):=by
 rw[wr _ qom,ac qom,ac qom]
 unfold gP
 rw[qzU,show(((found.length:Nat):Int)-1).toNat=found.length-1 by omega,qzc qom]
 rfl
theorem uZ {α β:Type} {c:Prop} [Decidable c] {x:Option α} {f:α→Option β}:(req c x).bind f=req c (x.bind f):=by
 unfold req;split <;> rfl
theorem n2_eq (k:Nat) (hk:1000000000000≤k) (g:GGraph) (t:Int) (es:List GEx) (hR:mK t es g.Nodes) (h1:1≤g.Nodes.length) (hs:0≤g.Seen∧g.Seen≤23) (ht:0≤t∧t≤100000) :
  aj.f k g t=some (gP (ax g.Mode g.Seen t none g.Nodes).2,⟨g.Mode,(ax g.Mode g.Seen t none g.Nodes).1,g.Seen,g.Now,g.Full||dw (ax g.Mode g.Seen t none g.Nodes).1⟩):=by
 have h12:=hR.2.1
 have:=wK (mode:=g.Mode) (ev:=none) hR hs g.Full (aj.l1 k g t) (fun N ns full found=>by rw[aj.l1,if_neg qom])
  (fun N i ns full found n e hi hl hn hx hr hS hf hF=>H4 k hk g t N i ns full found n e es hi qom hl hn hx hr hS hf hF hs ht) g.Nodes.length k 0 qom qom
 simp only[fy,vw,List.foldl_nil,qzC,qzP,dw,List.any_nil,Bool.or_false] at this
 unfold aj.f
 rw[show((0:Nat):Int)=0 from rfl] at this
 rw[this]
 simp only[qzb]
 have hl:=gz g.Mode g.Seen t none g.Nodes
 have q:=congrArg (Option.bind · fun x=>some (x,(⟨g.Mode,(ax g.Mode g.Seen t none g.Nodes).1,g.Seen,g.Now,g.Full||dw (ax g.Mode g.Seen t none g.Nodes).1⟩:GGraph))) (vA hl.2 h1 qom)
 simp only[uZ,qzb] at q
 exact q
theorem ev_eq (k:Nat) (hk:1000000000000≤k) (g:GGraph) (t:Int) (x:GEv) (es:List GEx) (hR:mK t es g.Nodes) (h1:1≤g.Nodes.length) (hs:0≤g.Seen∧g.Seen≤23) (ht:0≤t∧t≤100000) :
  am.f k g t x=some (gP (ax g.Mode g.Seen t (some x.Sym) g.Nodes).2,⟨g.Mode,(ax g.Mode g.Seen t (some x.Sym) g.Nodes).1,g.Seen,g.Now,g.Full||dw (ax g.Mode g.Seen t (some x.Sym) g.Nodes).1⟩,x):=by
 have h12:=hR.2.1
 have:=wK (mode:=g.Mode) (ev:=some x.Sym) hR hs g.Full (am.l1 k g t x) (fun N ns full found=>by rw[am.l1,if_neg qom])
  (fun N i ns full found n e hi hl hn hx hr hS hf hF=>HR k hk g t x N i ns full found n e es hi qom hl hn hx hr hS hf hF hs ht) g.Nodes.length k 0 qom qom
 simp only[fy,vw,List.foldl_nil,qzC,qzP,dw,List.any_nil,Bool.or_false] at this
 unfold am.f
 rw[show((0:Nat):Int)=0 from rfl] at this
 rw[this]
 simp only[qzb]
 have hl:=gz g.Mode g.Seen t (some x.Sym) g.Nodes
 have q:=congrArg (Option.bind · fun y=>some (y,(⟨g.Mode,(ax g.Mode g.Seen t (some x.Sym) g.Nodes).1,g.Seen,g.Now,g.Full||dw (ax g.Mode g.Seen t (some x.Sym) g.Nodes).1⟩:GGraph),x)) (vA hl.2 h1 qom)
 simp only[uZ,qzb] at q
 exact q
theorem I6 (k:Nat) (hk:1000000000000≤k) (n:GNode) (t:Int) (hl:n.Due.length≤1000):aZ.l3 k n k t 0=some (ir t n.Due):=by
 have:=cD n.Due (fun s o=>some (if o.To<s then o.To else s)) (aZ.l3 k n) (fun s o=>if o.To<s then o.To else s) (fun _ _=>True)
  (fun N s=>by rw[aZ.l3,if_neg qom])
  (fun N s i h=>by
   rw[aZ.l3,if_pos qom,ac qom,qzd,qzc h]
   simp only[qzb]
   rw[wrS i qom]
   split <;> rfl)
  (fun i s h _=>⟨rfl,trivial⟩) k t qom trivial
 exact this.1
theorem Iq (k:Nat) (hk:1000000000000≤k) (g:GGraph) (b:Int) (hg:g.Nodes.length≤1000) (hd:∀n∈g.Nodes,n.Due.length≤1000):aZ.f k g b=some (bW g.Nodes b,decide (bW g.Nodes b<b),g):=by
 have:=cD g.Nodes (fun s n=>aZ.l3 k n k s 0) (aZ.l2 k g) (fun s n=>ir s n.Due) (fun _ _=>True)
  (fun N s=>by rw[aZ.l2,if_neg qom])
  (fun N s i h=>by
   rw[aZ.l2,if_pos qom,ac qom,ac qom,qzd,qzc h]
   simp only[qzb]
   rw[wrS i qom])
  (fun i s h _=>⟨I6 k hk _ s (hd _ (qze h)),trivial⟩) k b qom trivial
 unfold aZ.f
 rw[this.1];rfl
theorem gl.due {T:Int} {es:List GEx} {ns:List GNode} (h:gl T es ns):∀n∈ns,n.Due.length≤1000:=fun n hn=>by
 have:=(h.2.2 n hn).2.2.2.2.2.2.2.2
 have:=lj h n 0
 omega
theorem C4 (k:Nat) (hk:1000000000000≤k) (e:GEv) (mode seen now:Int) (es:List GEx) (hs:0≤seen∧seen≤23) (he:e.At≤1000):∀(f N:Nat) (ns:List GNode) (out:List GOcc) (T:Int),gl T es ns→0≤T→T<e.At→(e.At-T).toNat≤f→f+1<N→out.length+40 * f≤1000000→
  ce.l0 k e N mode ns seen now false out=some (mode,(cK mode seen e.At f ns out).1,seen,now,(cK mode seen e.At f ns out).2.1,(cK mode seen e.At f ns out).2.2)
 |0,_,_,_,_,_,_,_,_,_,_=>by omega
 |f+1,N,ns,out,T,h,hT0,hT,hf,hN,hol=>by
  obtain⟨N,rfl⟩:=qsc N
  have nl:=oE ns e.At
  rw[ce.l0,if_neg (by decide),Iq k hk ⟨mode,ns,seen,now,false⟩ e.At (show ns.length≤1000 by have:=h.2.1.2;omega) h.due]
  simp only[qzb]
  unfold cK
  by_cases hlt:bW ns e.At<e.At
  ·rw[if_pos hlt,if_pos (by simpa using hlt)]
   have hT':T<bW ns e.At:=by
    rcases oz ns e.At with q|⟨n,q1,o,q2,q3⟩
    ·omega
    ·rw[q3];exact((h.2.2 n q1).2.2.2.1 o q2).1
   have hR:=h.ready (t:=bW ns e.At) qom
   rw[n2_eq k hk ⟨mode,ns,seen,now,false⟩ (bW ns e.At) es hR h.2.1.1 hs qom]
   simp only[qzb,oF]
   obtain⟨x,hx,lf⟩:=lu (mode:=mode) (ev:=none) hR h.2.1.1 hs
   have ls:=lf.small hx.2
   rw[ac qom]
   by_cases hfu:dw (ax mode seen (bW ns e.At) none ns).1=true
   ·rw[if_pos hfu,hfu]
    obtain⟨N,rfl⟩:=qsc N
    rw[ce.l0,if_pos rfl]
   ·have hfu':dw (ax mode seen (bW ns e.At) none ns).1=false:=by simpa using hfu
    rw[if_neg hfu,hfu']
    have ll:=qT (mode:=mode) (ev:=none) hR h.2.1.1 hs hfu'
    exact C4 k hk e mode seen now es hs he f N _ _ (bW ns e.At) (mW h (Int.le_of_lt hT') nl.2 hs hfu') qom hlt qom qom (by rw[qzg];omega)
  ·rw[if_neg hlt,if_neg (by simpa using hlt)]
theorem HO (k:Nat) (hk:1000000000000≤k) (e:GEv) (g:GGraph) (es:List GEx) (T:Int) (h:gl T es g.Nodes) (hT:0≤T∧T<e.At∧e.At≤1000) (hs:0≤g.Seen∧g.Seen≤23) (hf:g.Full=false) :
  ce.f k g e=some (match iv g.Mode g.Seen g.Nodes e with|none=>([],⟨g.Mode,[],g.Seen+1,e.At,true⟩)|some r=>(r.2,⟨g.Mode,r.1,g.Seen+1,e.At,false⟩)):=by
 unfold ce.f
 rw[hf,C4 k hk e g.Mode g.Seen g.Now es hs hT.2.2 1001 k g.Nodes [] T h hT.1 hT.2.1 qom qom (by simp)]
 simp only[qzb]
 unfold iv
 rw[wr (g.Seen+1) qom]
 by_cases h1:(cK g.Mode g.Seen e.At 1001 g.Nodes []).2.1=true
 ·rw[if_pos h1,if_pos h1]
 ·rw[if_neg h1,if_neg h1]
  obtain⟨T',a,b,c,d,f,gg⟩:=oT (mode:=g.Mode) (before:=e.At) hs 1001 g.Nodes [] T h hT.2.1 qom (fun o hh=>by simp at hh) (by simp) (by simpa using h1)
  have hR:=c.ready (t:=e.At) qom
  rw[ev_eq k hk ⟨g.Mode,(cK g.Mode g.Seen e.At 1001 g.Nodes []).1,g.Seen,g.Now,false⟩ e.At e es hR c.2.1.1 hs qom]
  simp only[qzb,oF]
  obtain⟨x,hx,lf⟩:=lu (mode:=g.Mode) (ev:=some e.Sym) hR c.2.1.1 hs
  have ls:=lf.small hx.2
  rw[ac qom]
  by_cases h2:dw (ax g.Mode g.Seen e.At (some e.Sym) (cK g.Mode g.Seen e.At 1001 g.Nodes []).1).1=true
  ·rw[if_pos h2,if_pos h2,wr (g.Seen+1) qom]
  ·rw[if_neg h2,if_neg h2,wr (g.Seen+1) qom]
def Fresh (n:GNode):Prop:=n.Pair=⟨[],[]⟩∧n.Span=⟨[],[]⟩∧n.Due=[]∧n.Many=0
theorem rX (m n:GNode):pp m n=true↔m.Kind=n.Kind∧m.Sym=n.Sym∧m.N=n.N∧m.Kids=n.Kids:=by
 unfold pp;simp
theorem Bq {a b:GEx} (h1:a.Kind=b.Kind) (h2:a.Sym=b.Sym) (h3:a.N=b.N) (h4:a.Kids=b.Kids):a=b:=by
 cases a;cases b;simp only at h1 h2 h3 h4;rw[h1,h2,h3,h4]
theorem tQ {α:Type} {l m:List α} {i:Nat} {x:α} (h:l[i]? =some x):(l++m)[i]? =some x:=by
 rw[qzG (List.getElem?_eq_some_iff.1 h).1];exact h
theorem gO.kid {e x:GEx} (h:gO e) (hx:x∈e.Kids):gO x:=by
 refine⟨(cT h.1).2 x hx,?_⟩
 have:=eQ hx
 have:=h.2
 rw[dG] at this
 omega
def GF (es:List GEx) (ns:List GNode) (k:Nat) (r:List GNode) (ok:List GEx→Prop):Prop:=∃es' nx,r=ns++nx∧Rep (es++es') (ns++nx)∧nx.length≤k∧(∀n∈nx,Fresh n)∧ok (es++es')
theorem HJ {xs:List GEx} (H:∀x∈xs,∀es ns,Rep es ns→GF es ns (exN x) (fZ x ns).2 fun es=>∃q:Nat,(fZ x ns).1=(q:Int)∧es[q]? =some x) :
  ∀es ns,Rep es ns→GF es ns (ek xs) (dJ xs ns).2 fun es=>(dJ xs ns).1.length=xs.length∧∀(j:Nat) (x:GEx),xs[j]? =some x→∃q:Nat,(dJ xs ns).1[j]? =some (q:Int)∧es[q]? =some x:=by
 induction xs with
 |nil=>
  intro es ns h
  rw[tc]
  exact⟨[],[],by simp,by simpa using h,by simp,by simp,rfl,fun j x hj=>by simp at hj⟩
 |cons x xs ih=>
  intro es ns h
  obtain⟨e1,n1,a1,a2,a3,a4,q,a5,a6⟩:=H x (by simp) es ns h
  obtain⟨e2,n2,b1,b2,b3,b4,b5,b6⟩:=ih (fun y hy=>H y (by simp[hy])) _ _ a2
  rw[rb,dz]
  simp only
  rw[a1]
  refine⟨e1++e2,n1++n2,by rw[b1,qzl],by rw[←qzl,←qzl];exact b2,by rw[qzg];omega,fun n hn=>(List.mem_append.1 hn).elim (a4 n) (b4 n),by simp[b5],fun j y hj=>?_⟩
  rw[←qzl]
  cases j with
  |zero=>
   simp only[qzs,qzi] at hj
   subst hj
   exact⟨q,by rw[qzs,a5],tQ a6⟩
  |succ j=>
   rw[yy] at hj⊢
   exact b6 j y hj
theorem CX:∀x:GEx,gO x→∀es ns,Rep es ns→GF es ns (exN x) (fZ x ns).2 fun es=>∃q:Nat,(fZ x ns).1=(q:Int)∧es[q]? =some x:=by
 refine jC fun x ih hx es ns h=>?_
 obtain⟨e1,n1,a1,a2,a3,a4,a5,a6⟩:=HJ (fun y hy=>ih y hy (hx.kid hy)) es ns h
 rw[xm]
 unfold rT
 rw[a1]
 cases hfi:(ns++n1).findIdx? fun m=>pp m (kI x.Kind x.Sym x.N (dJ x.Kids ns).1) with
 |some i=>
  simp only
  rw[List.findIdx?_eq_some_iff_getElem] at hfi
  obtain⟨hi,hk,_⟩:=hfi
  obtain⟨k1,k2,k3,k4⟩:=(rX _ _).1 hk
  obtain⟨e,he,_,hr⟩:=a2.2 i _ (qzc hi)
  have:e=x:=by
   refine Bq (hr.1.symm.trans k1) (hr.2.1.symm.trans k2) (hr.2.2.1.symm.trans k3) (List.ext_getElem? fun j=>?_)
   have hlen:e.Kids.length=x.Kids.length:=by rw[←hr.2.2.2.1,k4];exact a5
   rcases qzK j e.Kids.length with hj|hj
   ·obtain⟨q,_,q2,q3⟩:=hr.2.2.2.2 j hj
    obtain⟨q',p1,p2⟩:=a6 j x.Kids[j] (qzc qom)
    rw[k4] at q2
    have hq:some (q':Int)=some (q:Int):=p1.symm.trans q2
    have:q'=q:=Int.ofNat.inj (pH hq)
    subst this
    rw[←q3,p2,qzc qom]
   ·rw[qzJ hj,qzJ qom]
  subst this
  exact⟨e1,n1,rfl,a2,by rw[dG];omega,a4,i,rfl,he⟩
 |none=>
  simp only
  refine⟨e1++[x],n1++[kI x.Kind x.Sym x.N (dJ x.Kids ns).1],by rw[qzl],?_,by rw[dG,qzg,qzo];omega,fun n hn=>?_,(ns++n1).length,rfl,?_⟩
  ·rw[←qzl,←qzl]
   refine⟨by have:=a2.1;simp only[qzg,qzo] at this⊢;omega,fun i n hn=>?_⟩
   rcases qzK i (ns++n1).length with hlt|hge
   ·rw[qzG hlt] at hn
    obtain⟨e,he,hf,hr⟩:=a2.2 i n hn
    refine⟨e,tQ he,hf,hr.1,hr.2.1,hr.2.2.1,hr.2.2.2.1,fun j hj=>?_⟩
    obtain⟨q,q1,q2,q3⟩:=hr.2.2.2.2 j hj
    refine⟨q,q1,q2,?_⟩
    rw[qzG (by rw[a2.1];omega)];exact q3
   ·rw[qzt hge] at hn
    have:i=(ns++n1).length:=by
     have:=(List.getElem?_eq_some_iff.1 hn).1
     simp only[qzo] at this;omega
    subst this
    rw[qzW,qzs] at hn
    cases hn
    refine⟨x,?_,hx,rfl,rfl,rfl,a5,fun j hj=>?_⟩
    ·rw[←a2.1,qzt (qzh _),qzW];rfl
    ·obtain⟨q,p1,p2⟩:=a6 j x.Kids[j] (qzc hj)
     have hq:q<(es++e1).length:=(List.getElem?_eq_some_iff.1 p2).1
     refine⟨q,by rw[←a2.1];exact hq,p1,?_⟩
     rw[qzG hq,p2,qzc hj]
  ·rcases List.mem_append.1 hn with q|q
   ·exact a4 n q
   ·rw[List.mem_singleton.1 q];exact⟨rfl,rfl,rfl,rfl⟩
  ·rw[←qzl,←a2.1,qzt (qzh _),qzW];rfl
/-- the parts of an expression, before anything has happened -/
theorem yd:Rep [] []:=⟨rfl,fun i n h=>by simp at h⟩
theorem ET {x:GEx} (hx:gO x):∃es,gl 0 es (fZ x []).2∧∃q:Nat,es[q]? =some x∧(fZ x []).1=q:=by
 obtain⟨es,nx,a1,a2,a3,a4,q,a5,a6⟩:=CX x hx [] [] yd
 simp only[qzP] at a1 a2 a6
 rw[a1]
 have hq:=(List.getElem?_eq_some_iff.1 a6).1
 have:=hx.2
 refine⟨es,⟨a2,⟨by rw[←a2.1];omega,by omega⟩,fun n hn=>?_⟩,q,a6,a5⟩
 obtain⟨f1,f2,f3,f4⟩:=a4 n hn
 have g0:jQ []:=⟨by simp[Asc],fun o h=>by simp at h⟩
 have A0:All (fun o=>o.To≤(0:Int)) []:=fun o h=>by simp at h
 have mk:∀j,0≤jG nx n j:=fun j=>by
  unfold jG
  cases hq:nx[(n.Kids.getD j 0).toNat]? with
  |none=>simp
  |some m=>have:=(a4 m (qzL hq)).2.2.2;simp[this]
 refine⟨⟨by rw[f1,f2,f3];exact⟨g0,g0,g0,g0,g0⟩,by rw[f1,f2];exact⟨A0,A0,A0,A0⟩⟩,by rw[f4];omega,fun _=>f3,by rw[f3];simp,?_⟩
 rw[f1,f2,f3]
 exact⟨by simpa using mk 0,by simpa using mk 1,by simpa using mk 0,by split;exact(by simpa using mk 1);exact(by simpa using mk 2),by simpa using mk 0⟩
def Kids3 (ns:List GNode):Prop:=∀n∈ns,n.Kids.length≤3
theorem Rep.kids3 {es:List GEx} {ns:List GNode} (h:Rep es ns):Kids3 ns:=fun n hn=>by
 obtain⟨i,hi,rfl⟩:=List.mem_iff_getElem.1 hn
 obtain⟨e,_,hx,hr⟩:=h.2 i _ (qzc hi)
 rw[hr.2.2.2.1]
 rcases gZ (cT hx.1).1 with⟨_,hl⟩|⟨_,hl⟩|⟨_,hl⟩|⟨_,hl⟩|⟨_,hl⟩|⟨_,hl⟩|⟨_,hl⟩ <;> omega
theorem Hu (mode:Int):eI.f mode=some (decide (0≤mode)&&decide (mode≤4)):=by
 unfold eI.f
 rw[fh];rfl
/-- made of events seen so far -/
def eG (s:Int) (o:GOcc):Prop:=1≤o.From∧o.From≤o.To∧o.Ids≠[]∧∀x∈o.Ids,x<s
theorem eG.mono {s s':Int} (h:s≤s') {o:GOcc} (ho:eG s o):eG s' o:=⟨ho.1,ho.2.1,ho.2.2.1,fun x hx=>by have:=ho.2.2.2 x hx;omega⟩
theorem DK (s:Int):io (eG s):=fun a b ha hb=>by
 obtain⟨a1,a2,a3,a4⟩:=ha
 obtain⟨b1,b2,b3,b4⟩:=hb
 refine⟨?_,?_,?_,fun x hx=>?_⟩
 ·show 1≤min a.From b.From;omega
 ·show min a.From b.From≤max a.To b.To;omega
 ·intro e
  obtain⟨z,hz⟩:=List.exists_mem_of_ne_nil _ a3
  have:z∈dH a.Ids b.Ids:=eM.2 (.inl hz)
  rw[show dH a.Ids b.Ids=[] from e] at this
  simp at this
 ·rcases eM.1 (show x∈dH a.Ids b.Ids from hx) with h|h
  ·exact a4 x h
  ·exact b4 x h
theorem EB {s n:Int} (hn:0≤n) {o:GOcc} (h:eG s o):eG s (jA n o):=⟨h.1,by show o.From≤o.To+n;have:=h.2.1;omega,h.2.2.1,h.2.2.2⟩
/-- all lists of a part -/
def kr (Q:GOcc→Prop) (n:GNode):Prop:=All Q n.Pair.Left∧All Q n.Pair.Right∧All Q n.Span.Left∧All Q n.Span.Mid∧All Q n.Due
theorem HZ {Q:GOcc→Prop} {found:List (List GOcc)} (h:∀l∈found,All Q l) (n:GNode) (j:Nat):All Q (ap found n j):=by
 unfold ap
 rw[qzB]
 cases hf:found[(n.Kids.getD j 0).toNat]? with
 |none=>exact All.nil
 |some l=>exact h l (qzL hf)
theorem Gc {Q:GOcc→Prop} (hj:io Q) {mode seen t:Int} {ev:Option Int} {found:List (List GOcc)} {n:GNode} (hb:ev≠none→Q ⟨t,t,[seen]⟩) (hl:∀o,Q o→Q (jA n.N o))
  (hn:kr Q n) (hf:∀l∈found,All Q l):kr Q (aw mode seen t ev found n).1∧All Q (aw mode seen t ev found n).2:=by
 obtain⟨h1,h2,h3,h4,h5⟩:=hn
 have k:=HZ hf n
 unfold aw
 split
 ·refine⟨⟨h1,h2,h3,h4,h5⟩,?_⟩
  split
  ·rename_i he
   intro x hx
   rw[List.mem_singleton.1 hx]
   exact hb (by rw[he];simp)
  ·exact All.nil
 split
 ·exact⟨⟨h1,h2,h3,h4,h5⟩,(k 0).merge (k 1)⟩
 split
 ·have:=EZ hj mode (n.Pair.Left,n.Pair.Right) _ _ h1 h2 (k 0) (k 1)
  exact⟨⟨this.1,this.2.1,h3,h4,h5⟩,this.2.2⟩
 split
 ·have:=Fk hj mode (n.Pair.Left,n.Pair.Right) _ _ h1 h2 (k 0) (k 1)
  exact⟨⟨this.1,h2,h3,h4,h5⟩,this.2.2⟩
 split
 ·have:=FJ hj mode (n.Span.Left,n.Span.Mid) _ _ _ h3 h4 (k 0) (k 1) (k 2)
  exact⟨⟨h1,h2,this.1,this.2.1,h5⟩,this.2.2⟩
 split
 ·have:=DW hj mode (n.Span.Left,n.Span.Mid) _ _ _ h3 h4 (k 0) (k 1) (k 2)
  exact⟨⟨h1,h2,this.1,this.2.1,h5⟩,this.2.2⟩
 ·refine⟨⟨h1,h2,h3,h4,?_⟩,h5.filter _⟩
  have:∀(l acc:List GOcc),All Q l→All Q acc→All Q (l.foldl (fun s o=>cJ s (jA n.N o)) acc):=by
   intro l
   induction l with
   |nil=>intro acc _ h;exact h
   |cons o l ih=>intro acc ho ha;exact ih _ (fun x hx=>ho x (by simp[hx])) (ha.put (hl o (ho o (by simp))))
  exact this _ _ (k 0) (h5.filter _)
theorem Gw {Q:GOcc→Prop} {r:GNode×List GOcc} (h:kr Q r.1):kr Q (eO r):=h
theorem zn {Q:GOcc→Prop} (hj:io Q) {mode seen t:Int} {ev:Option Int} {ns:List GNode} (hb:ev≠none→Q ⟨t,t,[seen]⟩) (hl:∀n∈ns,∀o,Q o→Q (jA n.N o)) (hn:∀n∈ns,kr Q n) :
  (∀n∈(ax mode seen t ev ns).1,kr Q n)∧∀l∈(ax mode seen t ev ns).2,All Q l:=by
 unfold ax
 refine jT (fun s:List GNode×List (List GOcc)=>(∀n∈s.1,kr Q n)∧∀l∈s.2,All Q l) _ ns ([],[]) (fun s n hm hs=>?_) ⟨fun n h=>by simp at h,fun l h=>by simp at h⟩
 have:=Gc hj (mode:=mode) (seen:=seen) (t:=t) (ev:=ev) (found:=s.2) (n:=n) hb (hl n hm) (hn n hm) hs.2
 refine⟨fun x hx=>?_,fun l hx=>?_⟩
 ·rcases List.mem_append.1 hx with h|h
  ·exact hs.1 x h
  ·rw[List.mem_singleton.1 h];exact Gw this.1
 ·rcases List.mem_append.1 hx with h|h
  ·exact hs.2 l h
  ·rw[List.mem_singleton.1 h];exact this.2
def oR (Q:GOcc→Prop) (ns:List GNode):Prop:=∀n∈ns,∀o,Q o→Q (jA n.N o)
theorem H5 {mode seen t:Int} {ev:Option Int} {ns:List GNode}:∀x∈(ax mode seen t ev ns).1,∃n∈ns,x.N=n.N:=by
 unfold ax
 refine jT (fun s:List GNode×List (List GOcc)=>∀x∈s.1,∃n∈ns,x.N=n.N) _ ns ([],[]) (fun s n hm hs x hx=>?_) (fun n h=>by simp at h)
 rcases List.mem_append.1 hx with h|h
 ·exact hs x h
 ·rw[List.mem_singleton.1 h]
  exact⟨n,hm,ke.2.2.1⟩
theorem oR.point {Q:GOcc→Prop} {mode seen t:Int} {ev:Option Int} {ns:List GNode} (h:oR Q ns):oR Q (ax mode seen t ev ns).1:=fun x hx o ho=>by
 obtain⟨n,hn,e⟩:=H5 x hx
 rw[e];exact h n hn o ho
theorem vB {Q:GOcc→Prop} {found:List (List GOcc)} (h:∀l∈found,All Q l):All Q (gP found):=by
 unfold gP
 cases hf:found.getLast? with
 |none=>exact All.nil
 |some l=>exact h l (Ca hf)
theorem All.app {Q:GOcc→Prop} {l m:List GOcc} (h:All Q l) (hm:All Q m):All Q (l++m):=fun x hx=>(List.mem_append.1 hx).elim (h x) (hm x)
theorem BX {Q:GOcc→Prop} (hj:io Q) {mode seen before:Int}:∀(f:Nat) (ns:List GNode) (out:List GOcc),oR Q ns→(∀n∈ns,kr Q n)→All Q out→
  oR Q (cK mode seen before f ns out).1∧(∀n∈(cK mode seen before f ns out).1,kr Q n)∧All Q (cK mode seen before f ns out).2.2
 |0,ns,out,h1,h2,h3=>⟨h1,h2,h3⟩
 |f+1,ns,out,h1,h2,h3=>by
  unfold cK
  have hp:=zn hj (mode:=mode) (seen:=seen) (t:=bW ns before) (ev:=none) (fun h=>absurd rfl h) h1 h2
  split
  ·split
   ·exact⟨h1.point,hp.1,h3.app (vB hp.2)⟩
   ·exact BX hj f _ _ h1.point hp.1 (h3.app (vB hp.2))
  ·exact⟨h1,h2,h3⟩
theorem GA {Q:GOcc→Prop} (hj:io Q) {mode seen:Int} {ns ns':List GNode} {e:GEv} {out:List GOcc} (hb:Q ⟨e.At,e.At,[seen]⟩) (h1:oR Q ns) (h2:∀n∈ns,kr Q n) (hst:iv mode seen ns e=some (ns',out)) :
  oR Q ns'∧(∀n∈ns',kr Q n)∧All Q out:=by
 have hd:=BX hj (mode:=mode) (seen:=seen) (before:=e.At) 1001 ns [] h1 h2 All.nil
 have hp:=zn hj (mode:=mode) (seen:=seen) (t:=e.At) (ev:=some e.Sym) (fun _=>hb) hd.1 hd.2.1
 unfold iv at hst
 split at hst
 ·cases hst
 split at hst
 ·cases hst
 simp only[qzi,oa] at hst
 obtain⟨rfl,rfl⟩:=hst
 exact⟨hd.1.point,hp.1,hd.2.2.app (vB hp.2)⟩
theorem Fo (k:Nat) (g1:Int→Option Bool) (l:List Int) (hl:l.length≤1000000) (h:∀x∈l,g1 x=some false):∀(d n i:Nat),i+d=l.length→d<n→bi.l0 k g1 l n (i:Int)=some (.ok ()):=by
 intro d
 induction d with
 |zero=>
  intro n i hi hn
  obtain⟨n,rfl⟩:=qsc n
  rw[bi.l0,if_neg qom]
 |succ d ih=>
  intro n i hi hn
  obtain⟨n,rfl⟩:=qsc n
  have hlt:i<l.length:=by omega
  rw[bi.l0,if_pos qom,ac qom,qzd,qzc hlt]
  simp only[qzb]
  rw[h _ (qze hlt)]
  simp only[qzb,qzw,if_false]
  rw[wrS i qom]
  exact ih n (i+1) qom qom
theorem Ft (k:Nat) (hk:2000000≤k) (g1:Int→Option Bool) (l:List Int) (hl:l.length≤1000000) (h:∀x∈l,g1 x=some false):cO.f g1 k l=some false:=by
 have:=Fo k g1 l hl h l.length k 0 qom qom
 rw[show((0:Nat):Int)=0 from rfl] at this
 simp only[cO.f,bi.f,this,qzb]
 rfl
theorem zT (k:Nat) (g1:GOcc→Option Bool) (l:List GOcc) (hl:l.length≤1000000) (h:∀x∈l,g1 x=some false):∀(d n i:Nat),i+d=l.length→d<n→aC.l0 k g1 l n (i:Int)=some (.ok ()):=by
 intro d
 induction d with
 |zero=>
  intro n i hi hn
  obtain⟨n,rfl⟩:=qsc n
  rw[aC.l0,if_neg qom]
 |succ d ih=>
  intro n i hi hn
  obtain⟨n,rfl⟩:=qsc n
  have hlt:i<l.length:=by omega
  rw[aC.l0,if_pos qom,ac qom,qzd,qzc hlt]
  simp only[qzb]
  rw[h _ (qze hlt)]
  simp only[qzb,qzw,if_false]
  rw[wrS i qom]
  exact ih n (i+1) qom qom
theorem xk (k:Nat) (hk:2000000≤k) (g1:GOcc→Option Bool) (l:List GOcc) (hl:l.length≤1000000) (h:∀x∈l,g1 x=some false):bc.f g1 k l=some false:=by
 have:=zT k g1 l hl h l.length k 0 qom qom
 rw[show((0:Nat):Int)=0 from rfl] at this
 simp only[bc.f,aC.f,this,qzb]
 rfl
theorem xL (k:Nat) (g1:GNode→Option Bool) (l:List GNode) (hl:l.length≤1000000) (h:∀x∈l,g1 x=some false):∀(d n i:Nat),i+d=l.length→d<n→bC.l0 k g1 l n (i:Int)=some (.ok ()):=by
 intro d
 induction d with
 |zero=>
  intro n i hi hn
  obtain⟨n,rfl⟩:=qsc n
  rw[bC.l0,if_neg qom]
 |succ d ih=>
  intro n i hi hn
  obtain⟨n,rfl⟩:=qsc n
  have hlt:i<l.length:=by omega
  rw[bC.l0,if_pos qom,ac qom,qzd,qzc hlt]
  simp only[qzb]
  rw[h _ (qze hlt)]
  simp only[qzb,qzw,if_false]
  rw[wrS i qom]
  exact ih n (i+1) qom qom
theorem CU (k:Nat) (hk:2000000≤k) (g1:GNode→Option Bool) (l:List GNode) (hl:l.length≤1000000) (h:∀x∈l,g1 x=some false):ei.f g1 k l=some false:=by
 have:=xL k g1 l hl h l.length k 0 qom qom
 rw[show((0:Nat):Int)=0 from rfl] at this
 simp only[ei.f,bC.f,this,qzb]
 rfl
theorem pY {s:Int} {l:List GOcc} {T:Int} (h:jQ l) (hm:All (eG s) l) (ht:All (fun o=>o.To≤T) l) (hT:T≤1020) (hl:l.length≤40):dy l=true:=
 EJ (fun o ho=>(eV o).2 ⟨(hm o ho).1,(hm o ho).2.1,by have:=ht o ho;omega,by have:=List.length_pos_iff.2 (hm o ho).2.2.1;omega,h.2 o ho⟩) h.1 hl
theorem ml {s T:Int} {es:List GEx} {ns:List GNode} {n:GNode} (h:gl T es ns) (hn:n∈ns) (hm:kr (eG s) n) (hT:0≤T∧T≤1000) :
  dy n.Pair.Left=true∧dy n.Pair.Right=true∧dy n.Span.Left=true∧dy n.Span.Mid=true∧dy n.Due=true:=by
 obtain⟨⟨⟨a1,a2,a3,a4,a5⟩,b1,b2,b3,b4⟩,_,_,c5,d1,d2,d3,d4,d5⟩:=h.2.2 n hn
 obtain⟨m1,m2,m3,m4,m5⟩:=hm
 have k0:=lj h n 0
 have k1:=lj h n 1
 have k2:=lj h n 2
 refine⟨pY a1 m1 b1 qom qom,pY a2 m2 b2 qom qom,pY a3 m3 b3 qom qom,pY a4 m4 b4 qom ?_,pY (T:=T+20) a5 m5 (fun o ho=>(c5 o ho).2) qom qom⟩
 split at d4 <;> omega
theorem lw (k:Nat) (hk:1000000000000≤k) {l:List GOcc} (h:dy l=true):bR.f k l=some true:=by
 rw[E7 k hk l ⟨by have:=jf h;omega,qU h⟩,h]
theorem EG (k:Nat) (hk:2000000000000≤k) {s T:Int} {es:List GEx} {ns:List GNode} (h:gl T es ns) (hT:0≤T∧T≤1000) {i:Nat} {n:GNode} (hn:ns[i]? =some n) (hm:kr (eG s) n):jP.f k n (i:Int) T=some true:=by
 have hmem:=qzL hn
 obtain⟨o1,o2,o3,o4,o5⟩:=ml h hmem hm hT
 obtain⟨e,he,hx,hR⟩:=h.1.2 i n hn
 have ha:=Ao hx hR
 have hlen:=h.2.1
 have hi:i<ns.length:=(List.getElem?_eq_some_iff.1 hn).1
 have hh:eH e=true:=by have:=hx.1;rw[iR] at this;simp only[qzf] at this;exact this.1
 unfold eH at hh
 simp only[qzf,decide_eq_true_eq,sf] at hh
 obtain⟨⟨⟨⟨hk1,hs1⟩,hs2⟩,hs3⟩,hN⟩:=hh
 obtain⟨⟨_,_⟩,hM,hD,hD2,_⟩:=h.2.2 n hmem
 have hkids:∀x∈n.Kids,gB.f x (i:Int)=some false:=fun x hx'=>by
  obtain⟨j,hj⟩:=List.mem_iff_getElem?.1 hx'
  have hjl:j<e.Kids.length:=by rw[←hR.2.2.2.1];exact(List.getElem?_eq_some_iff.1 hj).1
  obtain⟨q,q1,q2,_⟩:=hR.2.2.2.2 j hjl
  rw[hj] at q2
  simp only[qzi] at q2
  subst q2
  simp only[gB.f]
  rw[wr _ qom,fh]
  simp only[qzb,qzi,xG,qzf,decide_eq_true_eq]
  omega
 have hdue:∀x∈n.Due,fG.f x T=some false:=fun x hx'=>by
  have:=(hD2 x hx').1
  simp only[fG.f,qzi,xG,decide_eq_true_eq]
  omega
 have k3:n.Kids.length≤3:=by
  have:ff e.Kind≤3:=by
   unfold ff;repeat' split
   all_goals omega
  rw[hR.2.2.2.1];omega
 have c1:=Ft k qom (fun y0=>gB.f y0 (i:Int)) n.Kids qom hkids
 have c2:=xk k qom (fun y0=>fG.f y0 T) n.Due (by have:=jf o5;omega) hdue
 have hpair:jt.f k n.Pair=some true:=by
  unfold jt.f
  rw[lw k qom o1]
  simp only[qzb,if_true]
  rw[lw k qom o2]
  rfl
 have hspan:jw.f k n.Span=some true:=by
  unfold jw.f
  rw[lw k qom o3]
  simp only[qzb,if_true]
  rw[lw k qom o4]
  rfl
 have hkind:ib.f n.Kind=some true:=by
  simp only[ib.f,fh,qzb,qzi,qzf,decide_eq_true_eq]
  omega
 have hsym:eK.f n.Sym=some true:=by
  simp only[eK.f,fh,qzb,qzi,qzf,decide_eq_true_eq]
  rw[hR.2.1];omega
 have hmany:bv.f n.Many 0 40=some true:=by
  simp only[fh,qzi,qzf,decide_eq_true_eq];omega
 unfold jP.f
 rw[hkind]
 simp only[qzb,if_true]
 rw[BF n.Kind qom]
 simp only[qzb]
 rw[if_pos (by rw[hR.2.2.2.1,hR.1];omega),c1]
 simp only[qzb,qzw,if_false]
 by_cases h7:n.Kind=7
 ·rw[if_pos h7]
  have hn7:bv.f n.N 1 20=some true:=by
   rw[if_pos (by rw[←hR.1];exact h7)] at hN
   simp only[qzf,decide_eq_true_eq] at hN
   simp only[fh,qzi,qzf,decide_eq_true_eq,hR.2.2.1];omega
  rw[hn7]
  simp only[qzb,if_true]
  rw[hsym]
  simp only[qzb,if_true]
  rw[hmany]
  simp only[qzb,if_true]
  rw[hpair]
  simp only[qzb,if_true]
  rw[hspan]
  simp only[qzb,if_true]
  rw[lw k qom o5]
  simp only[qzb,if_true]
  rw[c2]
  rfl
 ·rw[if_neg h7]
  have hn0:n.N=0:=by
   rw[if_neg (by rw[←hR.1];exact h7)] at hN
   simp only[decide_eq_true_eq] at hN
   rw[hR.2.2.1];exact hN
  rw[if_pos hn0,if_neg (by rw[hD h7];simp)]
  rw[hsym]
  simp only[qzb,if_true]
  rw[hmany]
  simp only[qzb,if_true]
  rw[hpair]
  simp only[qzb,if_true]
  rw[hspan]
  simp only[qzb,if_true]
  rw[lw k qom o5]
  simp only[qzb,if_true]
  rw[c2]
  rfl
/-- a graph of an expression that has seen these events -/
structure iz (now:Int) (seen:Nat) (g:GGraph):Prop where
 inv:∃es,gl now es g.Nodes
 late:0≤now∧now≤1000
 now':g.Now=now
 seen':g.Seen=seen
 few:seen≤24
 mode:0≤g.Mode∧g.Mode≤4
 full:g.Full=false
 made:∀n∈g.Nodes,kr (eG seen) n
theorem sJ (k:Nat) (hk:2000000000000≤k) {now:Int} {seen:Nat} {g:GGraph} (h:iz now seen g):dp.f k g=some true:=by
 obtain⟨es,hi⟩:=h.inv
 have hlen:=hi.2.1
 have L:∀(d n i:Nat),i+d=g.Nodes.length→d<n→dp.l0 k g n (i:Int)=some (.ok ()):=by
  intro d
  induction d with
  |zero=>
   intro n i hi' hn
   obtain⟨n,rfl⟩:=qsc n
   rw[dp.l0,if_neg qom]
  |succ d ih=>
   intro n i hi' hn
   obtain⟨n,rfl⟩:=qsc n
   have hlt:i<g.Nodes.length:=by omega
   rw[dp.l0,if_pos qom,ac qom,qzd,qzc hlt]
   simp only[qzb]
   rw[h.now',EG k hk hi h.late (qzc hlt) (h.made _ (qze hlt))]
   simp only[qzb,if_true]
   rw[wrS i qom]
   exact ih n (i+1) qom qom
 have L0:=L g.Nodes.length k 0 qom qom
 rw[show((0:Nat):Int)=0 from rfl] at L0
 unfold dp.f
 rw[L0]
 simp only[qzb]
 have e1:eI.f g.Mode=some true:=by
  simp only[eI.f,fh,qzb,qzi,qzf,decide_eq_true_eq];exact h.mode
 have e2:bv.f (g.Nodes.length:Int) 1 12=some true:=by
  simp only[fh,qzi,qzf,decide_eq_true_eq];omega
 have e3:bv.f g.Seen 0 24=some true:=by
  have:=h.seen';have:=h.few
  simp only[fh,qzi,qzf,decide_eq_true_eq];omega
 have e4:bv.f g.Now 0 1000=some true:=by
  have:=h.now';have:=h.late
  simp only[fh,qzi,qzf,decide_eq_true_eq];omega
 rw[e1]
 simp only[qzb,if_true]
 rw[e2]
 simp only[qzb,if_true]
 rw[e3]
 simp only[qzb,if_true]
 rw[e4]
 rfl
theorem wQ {s:Nat} {o:GOcc} (h:eG s o) (hl:o.Ids.length≤1000):∃x,dI.f o=some x∧x∈o.Ids∧x<s:=by
 have h1:=List.length_pos_iff.2 h.2.2.1
 obtain⟨m,hm⟩:∃m,o.Ids.length=m+1:=⟨o.Ids.length-1,by omega⟩
 unfold dI.f
 rw[hm,wrP m qom,ac qom,qzd,qzc qom]
 exact⟨_,rfl,qze _,h.2.2.2 _ (qze _)⟩
theorem H7 (k:Nat) (hk:2000000≤k) (e:GEng) (ls:List (List GOcc)) (hl:ls.length≤1000) (h:∀l∈ls,l.length≤1000∧All (eG e.Events.length) l∧Ids l):cv.f k e ls=some true:=by
 have L:∀(d n i:Nat),i+d=ls.length→d<n→cv.l0 k e ls n (i:Int)=some (.ok ()):=by
  intro d
  induction d with
  |zero=>
   intro n i hi' hn
   obtain⟨n,rfl⟩:=qsc n
   rw[cv.l0,if_neg qom]
  |succ d ih=>
   intro n i hi' hn
   obtain⟨n,rfl⟩:=qsc n
   have hlt:i<ls.length:=by omega
   obtain⟨h1,h2,h3⟩:=h _ (qze hlt)
   rw[cv.l0,if_pos qom,ac qom,qzd,qzc hlt]
   simp only[qzb]
   rw[xk k hk (fun y0=>gL.f y0 e) ls[i] qom (fun x hx=>by
    obtain⟨z,q1,_,q3⟩:=wQ (h2 x hx) (by have:=cp (h3 x hx);omega)
    simp only[gL.f,q1,qzb,qzi,xG,decide_eq_true_eq]
    exact q3)]
   simp only[qzb,qzw,if_false]
   rw[wrS i qom]
   exact ih n (i+1) qom qom
 have L0:=L ls.length k 0 qom qom
 rw[show((0:Nat):Int)=0 from rfl] at L0
 unfold cv.f
 rw[L0]
 rfl
theorem wg (k:Nat) (hk:2000000000000≤k) (e:GEng) {now:Int} {g:GGraph} (hn:jh.f e.Events=some now) (h:iz now e.Events.length g):em.f k e g=some true:=by
 obtain⟨es,hi⟩:=h.inv
 have hlen:=hi.2.1
 unfold em.f
 rw[sJ k hk h]
 simp only[qzb,if_true]
 rw[if_neg (by rw[h.full];decide),if_pos h.seen',hn]
 simp only[qzb]
 rw[if_pos h.now',CU k qom (fun y0=>fR.f k y0 e) g.Nodes qom (fun n hn'=>by
  obtain⟨o1,o2,o3,o4,o5⟩:=ml hi hn' (h.made n hn') h.late
  obtain⟨m1,m2,m3,m4,m5⟩:=h.made n hn'
  have each:∀l,dy l=true→All (eG e.Events.length) l→l.length≤1000∧All (eG e.Events.length) l∧Ids l:=fun l ho hm=>⟨by have:=jf ho;omega,hm,zf ho⟩
  simp only[fR.f]
  rw[H7 k qom e _ (by simp) (fun l hl=>by
   simp only[qzp,sM,or_false] at hl
   rcases hl with rfl|rfl|rfl|rfl|rfl
   ·exact each _ o1 m1
   ·exact each _ o2 m2
   ·exact each _ o3 m3
   ·exact each _ o4 m4
   ·exact each _ o5 m5)]
  rfl)]
 rfl
def jE (rs:List GRule) (x:Int):Int:=((rs[x.toNat]?).map (·.Pri)).getD 0
/-- into a list that is kept backwards -/
def inR (p:Int→Int):List Int→Int→List Int
 |[],x=>[x]
 |y::l,x=>if p y<p x then y::inR p l x else x::y::l
def la (p:Int→Int) (n:Nat):List Int:=(List.range n).foldl (fun s (i:Nat)=>inR p s (i:Int)) []
def eE (rs:List GRule):List Int:=(la (jE rs) rs.length).reverse
theorem sa (p:Int→Int) (n:Nat):la p (n+1)=inR p (la p n) (n:Int):=by
 unfold la
 rw[List.range_succ,List.foldl_append];rfl
theorem uN (p:Int→Int) (x:Int):∀l:List Int,(inR p l x).Perm (x::l)
 |[]=>List.Perm.refl _
 |y::l=>by
  unfold inR
  split
  ·exact((uN p x l).cons y).trans (List.Perm.swap x y l)
  ·exact List.Perm.refl _
theorem mQ (p:Int→Int):∀n:Nat,(la p n).Perm ((List.range n).map fun i:Nat=>(i:Int))
 |0=>List.Perm.refl _
 |n+1=>by
  rw[sa,List.range_succ,List.map_append]
  exact(uN p n _).trans (((mQ p n).cons (n:Int)).trans (by rw[qzA,nB];exact(List.perm_append_singleton _ _).symm))
theorem ri (rs:List GRule):(eE rs).Perm ((List.range rs.length).map fun i:Nat=>(i:Int)):=(List.reverse_perm _).trans (mQ _ _)
theorem fx (rs:List GRule):(eE rs).length=rs.length:=by rw[(ri rs).length_eq];simp
theorem jR {rs:List GRule} {x:Int}:x∈eE rs↔∃i:Nat,i<rs.length∧x=i:=by
 rw[(ri rs).mem_iff,List.mem_map]
 constructor
 ·rintro⟨i,h,rfl⟩;exact⟨i,List.mem_range.1 h,rfl⟩
 ·rintro⟨i,h,rfl⟩;exact⟨i,List.mem_range.2 h,rfl⟩
theorem mF (rs:List GRule):(eE rs).Nodup:=by
 rw[(ri rs).nodup_iff]
 exact(List.pairwise_map.2 ((List.nodup_range (n:=rs.length)).imp fun h e=>h (Int.ofNat.inj e)))
theorem AZ {p:Int→Int} {n:Nat} {x:Int}:x∈la p n↔∃i:Nat,i<n∧x=i:=by
 rw[(mQ p n).mem_iff,List.mem_map]
 constructor
 ·rintro⟨i,h,rfl⟩;exact⟨i,List.mem_range.1 h,rfl⟩
 ·rintro⟨i,h,rfl⟩;exact⟨i,List.mem_range.2 h,rfl⟩
theorem Ht {α:Type} (A:List α) (y x z:α) (r:List α):(A++y::x::r).set (A.length+1) z=A++y::z::r:=by
 rw[List.set_append_right _ _ qom,Nat.add_sub_cancel_left];rfl
theorem I2 {α:Type} (A:List α) (y z:α) (r:List α):(A++y::r).set A.length z=A++z::r:=by
 rw[List.set_append_right _ _ qom,qzW];rfl
theorem H3 {α:Type} (A:List α) (y x:α) (r:List α):(A++y::x::r)[A.length+1]? =some x:=by
 rw[qzt qom,Nat.add_sub_cancel_left];rfl
theorem BV {α:Type} (A:List α) (y:α) (r:List α):(A++y::r)[A.length]? =some y:=by
 rw[qzt qom,qzW];rfl
theorem yX (k:Nat) (p:Int→Int) (V:Int→Prop) (g:Int→Int→Option Int) (hg:∀a b,V a→V b→g a b=some (p b-p a)) (x:Int) (hx:V x):∀(A r:List Int) (N:Nat),(∀y∈A,V y)→A.length+r.length≤1000→A.length<N→
  av.l3 k g 0 N (A.reverse++x::r) (A.length:Int)=some ((inR p A x).reverse++r)
 |[],r,N,_,_,hN=>by
  obtain⟨N,rfl⟩:=qsc N
  rw[av.l3,if_neg (by simp)]
  rfl
 |y::A,r,N,hA,hl,hN=>by
  obtain⟨N,rfl⟩:=qsc N
  have hl':=hl
  simp only[qzm] at hl'
  have e0:(y::A).reverse++x::r=A.reverse++y::x::r:=by simp
  have eL:(A.reverse++y::x::r).length=A.length+r.length+2:=by simp;omega
  have g1:(A.reverse++y::x::r)[A.length+1]? =some x:=by have:=H3 A.reverse y x r;rwa [xB] at this
  have g2:(A.reverse++y::x::r)[A.length]? =some y:=by have:=BV A.reverse y (x::r);rwa [xB] at this
  have s1:(A.reverse++y::x::r).set (A.length+1) y=A.reverse++y::y::r:=by have:=Ht A.reverse y x y r;rwa [xB] at this
  have s2:(A.reverse++y::y::r).set A.length x=A.reverse++x::y::r:=by have:=I2 A.reverse y x (y::r);rwa [xB] at this
  have g3:(A.reverse++y::y::r)[A.length]? =some y:=by have:=BV A.reverse y (y::r);rwa [xB] at this
  rw[e0,show(((y::A).length:Nat):Int)=((A.length+1:Nat):Int) from rfl]
  rw[av.l3,if_pos qom,wrP A.length qom,ac qom,ac (by rw[eL];omega),qzd,qzd,g1]
  simp only[qzb]
  rw[ac qom,ac (by rw[eL];omega),g2]
  simp only[qzb]
  rw[hg x y hx (hA y (by simp))]
  simp only[qzb]
  unfold inR
  by_cases h:p y<p x
  ·rw[if_pos qom,if_pos h]
   rw[ac qom,ac (by rw[eL];omega),ac qom,ac (by rw[eL];omega),ac qom,ac (by rw[eL];omega),ac qom,ac (by rw[eL];omega),s1,g3]
   simp only[qzb]
   rw[s2,yX k p V g hg x hx A (y::r) N (fun z hz=>hA z (by simp[hz])) (by simp only[qzm];omega) (by simp only[qzm] at hN;omega)]
   simp
  ·rw[if_neg qom,if_neg h]
   simp
theorem FL (k:Nat) (hk:2000≤k) (p:Int→Int) (V:Int→Prop) (g:Int→Int→Option Int) (hg:∀a b,V a→V b→g a b=some (p b-p a)) (n:Nat) (hn:n≤500) (hV:∀i:Nat,i<n→V i):∀(d i N:Nat),i+d=n→1≤i→d<N→
  av.l2 k g 0 (n:Int) N ((la p i).reverse++(List.range' i d).map fun j:Nat=>(j:Int)) (i:Int)=some (la p n).reverse:=by
 intro d
 induction d with
 |zero=>
  intro i N hi h1 hN
  obtain⟨N,rfl⟩:=qsc N
  have:i=n:=by omega
  subst this
  rw[av.l2,if_neg qom]
  simp
 |succ d ih=>
  intro i N hi h1 hN
  obtain⟨N,rfl⟩:=qsc N
  rw[av.l2,if_pos qom,sR,qzA]
  have hlen:(la p i).length=i:=by rw[(mQ p i).length_eq];simp
  have:=yX k p V g hg (i:Int) (hV i qom) (la p i) ((List.range' (i+1) d).map fun j:Nat=>(j:Int)) k (fun y hy=>by obtain⟨j,hj,rfl⟩:=AZ.1 hy;exact hV j qom) (by rw[hlen];simp;omega) qom
  rw[hlen] at this
  rw[this]
  simp only[qzb]
  rw[wrS i qom,←sa]
  exact ih (i+1) N qom qom qom
theorem Ij (k:Nat) (hk:2000≤k) (p:Int→Int) (V:Int→Prop) (g:Int→Int→Option Int) (hg:∀a b,V a→V b→g a b=some (p b-p a)) (n:Nat) (hn:n≤500) (hV:∀i:Nat,i<n→V i) :
  av.f g k ((List.range' 0 n).map fun j:Nat=>(j:Int)) 0 (n:Int)=some (la p n).reverse:=by
 unfold av.f
 rw[show IntKind.wrap .i64 ((0:Int)+1)=1 from wr _ qom]
 cases n with
 |zero=>
  obtain⟨m,rfl⟩:∃m,k=m+1:=⟨k-1,by omega⟩
  rw[av.l2,if_neg qom];rfl
 |succ n=>
  rw[sR,qzA]
  have:=FL k hk p V g hg (n+1) hn hV n 1 k qom qom qom
  rw[show(la p 1).reverse=[((0:Nat):Int)] from rfl] at this
  rw[show((1:Nat):Int)=1 from rfl] at this
  have e:((0:Nat):Int)::List.map (fun j:Nat=>(j:Int)) (List.range' (0+1) n)=[((0:Nat):Int)]++List.map (fun j:Nat=>(j:Int)) (List.range' 1 n):=rfl
  rw[e,this];rfl
theorem Fu (k:Nat) (hk:2000≤k) (p:Int→Int) (V:Int→Prop) (g:Int→Int→Option Int) (hg:∀a b,V a→V b→g a b=some (p b-p a)) (n:Nat) (hn:n≤19) (hV:∀i:Nat,i<n→V i) :
  eX.f g k ((List.range' 0 n).map fun j:Nat=>(j:Int))=some (la p n).reverse:=by
 have hlen:(la p n).reverse.length=n:=by rw[xB,(mQ p n).length_eq];simp
 have hl2:((List.range' 0 n).map fun j:Nat=>(j:Int)).length=n:=by simp
 obtain⟨m,rfl⟩:∃m,k=m+1:=⟨k-1,by omega⟩
 have ie:=Ij (m+1) hk p V g hg n qom hV
 unfold eX.f aH.f
 rw[aH.l0,hl2,if_pos qom]
 simp only[qzb]
 rw[ie]
 simp only[qzb]
 rw[aH.l3,if_neg qom,ac (by rw[hlen,hl2])]
 simp only[qzb]
 rw[ac (by rw[hlen])]
theorem H8 (k:Nat) (hk:2000≤k) (rs:List GRule) (hl:rs.length≤4) (hp:∀r∈rs,0≤r.Pri∧r.Pri≤9):eu.f k rs=some (eE rs):=by
 have L:∀(d i N:Nat),i+d=rs.length→d<N→eu.l0 k rs N ((List.range' 0 i).map fun j:Nat=>(j:Int)) (i:Int)=some ((List.range' 0 rs.length).map fun j:Nat=>(j:Int)):=by
  intro d
  induction d with
  |zero=>
   intro i N hi hN
   obtain⟨N,rfl⟩:=qsc N
   rw[eu.l0,if_neg qom,show i=rs.length by omega]
  |succ d ih=>
   intro i N hi hN
   obtain⟨N,rfl⟩:=qsc N
   rw[eu.l0,if_pos qom,ac (by simp;omega),wrS i qom]
   have:=ih (i+1) N qom qom
   rw[List.range'_concat,List.map_append] at this
   simpa using this
 have L0:=L rs.length 0 k qom qom
 unfold eu.f
 rw[show(List.map (fun j:Nat=>(j:Int)) (List.range' 0 0))=[] from rfl,show((0:Nat):Int)=0 from rfl] at L0
 rw[L0]
 simp only[qzb]
 have hlen:(eE rs).length=rs.length:=fx rs
 rw[Fu k hk (jE rs) (fun x=>∃i:Nat,i<rs.length∧x=i) _ (fun a b ⟨i,hi,ha⟩ ⟨j,hj,hb⟩=>by
  subst ha;subst hb
  unfold lE.f jE
  have h1:=hp _ (qze hi)
  have h2:=hp _ (qze hj)
  rw[ac qom,qzd,qzd,qzc hj]
  simp only[qzb]
  rw[ac qom,qzc hi]
  simp only[qzb,qzQ,yA]
  rw[wr _ qom]) rs.length qom (fun i hi=>⟨i,hi,rfl⟩)]
 simp only[qzb]
 rw[ac (by show(eE rs).length=_;rw[hlen];simp)]
 rfl
/-- a loop that ends where something does not hold -/
theorem Ee {β:Type} (m:Nat) (p:Nat→Bool) (b:β) (L:Nat→Int→Option (Except β Unit)) (h0:∀N,L (N+1) (m:Int)=some (.ok ()))
  (h1:∀N i,i<m→L (N+1) (i:Int)=if p i=true then L N ((i+1:Nat):Int) else some (.error b)):∀(d i N:Nat),i+d=m→d<N→L N (i:Int)=some (if(List.range' i d).all p=true then .ok () else .error b):=by
 intro d
 induction d with
 |zero=>
  intro i N hi hN
  obtain⟨N,rfl⟩:=qsc N
  rw[show i=m by omega,h0];rfl
 |succ d ih=>
  intro i N hi hN
  obtain⟨N,rfl⟩:=qsc N
  rw[h1 N i qom,sR,qzN]
  by_cases hp:p i=true
  ·rw[if_pos hp,ih (i+1) N qom qom,hp,qzk]
  ·rw[if_neg hp]
   have:p i=false:=by simpa using hp
   rw[this,Bool.false_and];rfl
theorem jv {β:Type} (m:Nat) (p:Nat→Bool) (b:β) (L:Nat→Int→Option (Except β Unit)) (h0:∀N,L (N+1) (m:Int)=some (.ok ()))
  (h1:∀N i,i<m→L (N+1) (i:Int)=if p i=true then L N ((i+1:Nat):Int) else some (.error b)) (N:Nat) (hN:m<N):L N 0=some (if ∀i,i<m→p i=true then .ok () else .error b):=by
 have:=Ee m p b L h0 h1 m 0 N qom hN
 rw[show((0:Nat):Int)=0 from rfl] at this
 rw[this]
 congr 1
 by_cases h:∀i,i<m→p i=true
 ·rw[if_pos h,if_pos]
  rw[qzR]
  intro x hx
  rw[List.mem_range'] at hx
  obtain⟨j,h1,h2⟩:=hx
  exact h x qom
 ·rw[if_neg h,if_neg]
  intro q
  rw[qzR] at q
  exact h fun i hi=>q i (List.mem_range'.2 ⟨i,hi,by omega⟩)
/-- a loop that makes one of each -/
theorem ic {α β:Type} (l:List α) (f:α→β) (L:Nat→List β→Int→Option (List β)) (h0:∀N acc,L (N+1) acc (l.length:Int)=some acc)
  (h1:∀N acc i (h:i<l.length),acc.length=i→L (N+1) acc (i:Int)=L N (acc++[f l[i]]) ((i+1:Nat):Int)) (N:Nat) (hN:l.length<N):L N [] 0=some (l.map f):=by
 have:∀(d i N:Nat),i+d=l.length→d<N→L N ((l.take i).map f) (i:Int)=some (l.map f):=by
  intro d
  induction d with
  |zero=>
   intro i N hi hN
   obtain⟨N,rfl⟩:=qsc N
   rw[show i=l.length by omega,h0,List.take_length]
  |succ d ih=>
   intro i N hi hN
   obtain⟨N,rfl⟩:=qsc N
   have hlt:i<l.length:=by omega
   rw[h1 N _ i hlt (by simp;omega)]
   have:=ih (i+1) N qom qom
   rw[xM,qzc hlt,List.map_append] at this
   exact this
 exact this l.length 0 N qom hN
def oO (s:ByteArray) (i:Nat):Bool:= !decide ((mD s i)<97)&& !decide (122<(mD s i))
def jW (s:ByteArray):Bool:=decide (∀i,i<s.size→oO s i=true)&&(decide (1≤s.size)&&decide (s.size≤6))
theorem z8 (k:Nat) (s:ByteArray) (hs:s.size≤1000000) (hk:1000001≤k):dM.f k s=some (jW s):=by
 have:=jv s.size (oO s) false (dM.l0 k s) (fun N=>by rw[dM.l0,if_neg qom])
  (fun N i hi=>by
   rw[dM.l0,if_pos qom,ac qom,ac qom,ac qom,ac qom,qzd,wrS i qom]
   unfold oO
   by_cases h1:(mD s i)<97
   ·rw[if_pos h1];simp[h1]
   ·rw[if_neg h1]
    by_cases h2:122<(mD s i)
    ·rw[if_pos h2];simp[h2]
    ·rw[if_neg h2];simp[h1,h2]) k qom
 unfold dM.f jW
 rw[this]
 by_cases h:∀i,i<s.size→oO s i=true
 ·rw[if_pos h]
  simp only[qzb,fh,qzi]
  rw[qzS]
  simp only[qzf,decide_eq_true_eq]
  constructor
  ·intro q;exact⟨h,by omega,by omega⟩
  ·intro q;omega
 ·rw[if_neg h,decide_eq_false h];rfl
def rOk (r:GRule):Bool:=jW r.Name&&(decide (0≤r.Pri∧r.Pri≤9)&&(decide (0≤r.Mode∧r.Mode≤4)&&(lc r.Ex&&(decide (0≤r.Low∧r.Low≤r.High∧r.High≤100)&&(decide (0≤r.Key∧r.Key≤3)&&(decide (-9≤r.Add∧r.Add≤9)&&decide (-1≤r.Raise∧r.Raise≤4)))))))
structure wC (r:GRule):Prop where
 name:jW r.Name=true
 pri:0≤r.Pri∧r.Pri≤9
 mode:0≤r.Mode∧r.Mode≤4
 ex:lc r.Ex=true
 low:0≤r.Low∧r.Low≤r.High∧r.High≤100
 key:0≤r.Key∧r.Key≤3
 add: -9≤r.Add∧r.Add≤9
 raise: -1≤r.Raise∧r.Raise≤4
theorem xx (r:GRule):rOk r=true↔wC r:=by
 unfold rOk
 simp only[qzf,decide_eq_true_eq]
 constructor
 ·rintro⟨a,b,c,d,e,f,g,h⟩;exact⟨a,b,c,d,e,f,g,h⟩
 ·rintro⟨a,b,c,d,e,f,g,h⟩;exact⟨a,b,c,d,e,f,g,h⟩
/-- small enough to be looked at -/
def mT (r:GRule):Prop:=r.Name.size≤1000000∧exN r.Ex≤1000000
theorem zu (k:Nat) (hk:1000000000000≤k) (r:GRule) (h:mT r):kP.f k r=some (rOk r):=by
 unfold kP.f rOk
 rw[z8 k r.Name h.1 qom,Hu,Cw r.Ex (by have:=h.2;omega) k (by have:=h.2;omega)]
 simp only[fh,qzb]
 cases jW r.Name
 ·rfl
 simp only[if_true,qzk]
 by_cases h1:0≤r.Pri∧r.Pri≤9
 rotate_left
 ·rw[if_neg (by simpa using h1),decide_eq_false h1];rfl
 rw[if_pos (by simpa using h1),decide_eq_true h1,qzk]
 by_cases h2:0≤r.Mode∧r.Mode≤4
 rotate_left
 ·rw[if_neg (by simpa using h2),decide_eq_false h2];rfl
 rw[if_pos (by simpa using h2),decide_eq_true h2,qzk]
 cases lc r.Ex
 ·rfl
 simp only[if_true,qzk]
 by_cases h3:0≤r.Low∧r.Low≤r.High
 rotate_left
 ·rw[if_neg (by simpa using h3),decide_eq_false (fun q=>h3 ⟨q.1,q.2.1⟩)];rfl
 rw[if_pos (by simpa using h3)]
 by_cases h4:100<r.High
 ·rw[if_pos h4,decide_eq_false (fun q=>by omega)];rfl
 rw[if_neg h4,decide_eq_true (show 0≤r.Low∧r.Low≤r.High∧r.High≤100 by omega),qzk]
 by_cases h5:0≤r.Key∧r.Key≤3
 rotate_left
 ·rw[if_neg (by simpa using h5),decide_eq_false h5];rfl
 rw[if_pos (by simpa using h5),decide_eq_true h5,qzk]
 by_cases h6: -9≤r.Add∧r.Add≤9
 rotate_left
 ·rw[if_neg (by simpa using h6),decide_eq_false h6];rfl
 rw[if_pos (by simpa using h6),decide_eq_true h6,qzk,qzi,qzS]
 simp
def iG (l:List GRule) (i:Nat):Bool:=match l[i]? with
 |some r=>rOk r&&(l.take i).all fun s=> !fB s.Name r.Name
 |none=>false
def dO (l:List GRule):Bool:=decide (∀i,i<l.length→iG l i=true)&&decide (l.length≤4)
theorem ef {l:List GRule} (h:dO l=true) {r:GRule} (hr:r∈l):wC r:=by
 unfold dO at h
 simp only[qzf,decide_eq_true_eq] at h
 obtain⟨i,hi,rfl⟩:=List.mem_iff_getElem.1 hr
 have:=h.1 i hi
 unfold iG at this
 rw[qzc hi] at this
 simp only[qzf] at this
 exact(xx _).1 this.1
theorem fj {l:List GRule} (h:dO l=true):l.length≤4:=by
 unfold dO at h
 simp only[qzf,decide_eq_true_eq] at h
 exact h.2
theorem wC.small {r:GRule} (h:wC r):mT r:=by
 refine⟨?_,by have:=sq h.ex;omega⟩
 have:=h.name
 unfold jW at this
 simp only[qzf,decide_eq_true_eq] at this
 omega
theorem zE (k:Nat) (g1:GRule→Option Bool) (p:GRule→Bool) (l:List GRule) (hl:l.length≤1000000) (h:∀x∈l,g1 x=some (p x)):∀(d n i:Nat),i+d=l.length→d<n→
  ∃r,bB.l0 k g1 l n (i:Int)=some r∧((∃j:Int,r= .error j∧0≤j∧(l.drop i).any p=true)∨(r= .ok ()∧(l.drop i).any p=false)):=by
 intro d
 induction d with
 |zero=>
  intro n i hi hn
  obtain⟨n,rfl⟩:=qsc n
  rw[bB.l0,if_neg qom,qzn qom]
  exact⟨_,rfl,.inr ⟨rfl,rfl⟩⟩
 |succ d ih=>
  intro n i hi hn
  obtain⟨n,rfl⟩:=qsc n
  have hlt:i<l.length:=by omega
  rw[bB.l0,if_pos qom,ac qom,qzd,qzc hlt,qzj hlt,List.any_cons]
  simp only[qzb]
  rw[h _ (qze hlt)]
  simp only[qzb]
  cases hp:p l[i]
  ·simp only[qzw,if_false,oF]
   rw[wrS i qom]
   exact ih n (i+1) qom qom
  ·exact⟨_,rfl,.inl ⟨i,rfl,by omega,rfl⟩⟩
theorem D7 (k:Nat) (hk:2000000≤k) (g1:GRule→Option Bool) (p:GRule→Bool) (l:List GRule) (hl:l.length≤1000000) (h:∀x∈l,g1 x=some (p x)):ee.f g1 k l=some (l.any p):=by
 obtain⟨r,e,h3⟩:=zE k g1 p l hl h l.length k 0 qom qom
 unfold ee.f bB.f
 rw[show(0:Int)=((0:Nat):Int) from rfl,e]
 simp only[qzC] at h3
 rcases h3 with⟨j,rfl,hj,h4⟩|⟨rfl,h4⟩
 ·have:¬j<0:=by omega
  simp[h4,this]
 ·simp[h4]
theorem HX {α:Type} (p:α→Bool) (l:List α):(l.all fun x=> !p x)= !(l.any p):=by
 induction l with
 |nil=>rfl
 |cons x l ih=>rw[qzN,List.any_cons,ih,Bool.not_or]
theorem qh (k:Nat) (hk:1000000000000≤k) (l:List GRule) (hl:l.length≤1000000) (h:∀r∈l,mT r):dh.f k l=some (dO l):=by
 have:=jv l.length (iG l) false (dh.l0 k l) (fun N=>by rw[dh.l0,if_neg qom])
  (fun N i hi=>by
   rw[dh.l0,if_pos qom,ac qom,qzd,qzc hi]
   simp only[qzb]
   rw[zu k hk _ (h _ (qze hi))]
   simp only[qzb]
   have hn:iG l i=(rOk l[i]&&(l.take i).all fun s=> !fB s.Name l[i].Name):=by unfold iG;rw[qzc hi]
   rw[hn]
   by_cases hb:rOk l[i]=true
   ·rw[if_pos hb,hb,qzk,ac qom,ac qom,ac qom,D7 k qom (fun y0=>kq.f y0 l[i]) (fun s=>fB s.Name l[i].Name) (l.take i) (by rw[qzO];omega) (fun x _=>rfl)]
    simp only[qzb]
    rw[HX]
    cases(l.take i).any fun s=>fB s.Name l[i].Name
    ·simp only[qzw,if_false,Bool.not_false,if_true]
     rw[wrS i qom]
    ·rfl
   ·rw[if_neg hb]
    have:rOk l[i]=false:=by simpa using hb
    rw[this];rfl) k qom
 unfold dh.f dO
 rw[this]
 by_cases h:∀i,i<l.length→iG l i=true
 ·rw[if_pos h,decide_eq_true h,qzk]
  simp only[qzb,qzi]
  rw[qzS]
  simp;omega
 ·rw[if_neg h,decide_eq_false h];rfl
theorem wV (k:Nat) (g1:GGraph→Option Bool) (l:List GGraph) (hl:l.length≤1000000) (h:∀x∈l,g1 x=some false):∀(d n i:Nat),i+d=l.length→d<n→aV.l0 k g1 l n (i:Int)=some (.ok ()):=by
 intro d
 induction d with
 |zero=>
  intro n i hi hn
  obtain⟨n,rfl⟩:=qsc n
  rw[aV.l0,if_neg qom]
 |succ d ih=>
  intro n i hi hn
  obtain⟨n,rfl⟩:=qsc n
  have hlt:i<l.length:=by omega
  rw[aV.l0,if_pos qom,ac qom,qzd,qzc hlt]
  simp only[qzb]
  rw[h _ (qze hlt)]
  simp only[qzb,qzw,if_false]
  rw[wrS i qom]
  exact ih n (i+1) qom qom
theorem AA (k:Nat) (hk:2000000≤k) (g1:GGraph→Option Bool) (l:List GGraph) (hl:l.length≤1000000) (h:∀x∈l,g1 x=some false):cX.f g1 k l=some false:=by
 have:=wV k g1 l hl h l.length k 0 qom qom
 rw[show((0:Nat):Int)=0 from rfl] at this
 simp only[cX.f,aV.f,this,qzb]
 rfl
theorem xF (k:Nat) (g1:GFire→Option Bool) (l:List GFire) (hl:l.length≤1000000) (h:∀x∈l,g1 x=some false):∀(d n i:Nat),i+d=l.length→d<n→bf.l0 k g1 l n (i:Int)=some (.ok ()):=by
 intro d
 induction d with
 |zero=>
  intro n i hi hn
  obtain⟨n,rfl⟩:=qsc n
  rw[bf.l0,if_neg qom]
 |succ d ih=>
  intro n i hi hn
  obtain⟨n,rfl⟩:=qsc n
  have hlt:i<l.length:=by omega
  rw[bf.l0,if_pos qom,ac qom,qzd,qzc hlt]
  simp only[qzb]
  rw[h _ (qze hlt)]
  simp only[qzb,qzw,if_false]
  rw[wrS i qom]
  exact ih n (i+1) qom qom
theorem Cn (k:Nat) (hk:2000000≤k) (g1:GFire→Option Bool) (l:List GFire) (hl:l.length≤1000000) (h:∀x∈l,g1 x=some false):dn.f g1 k l=some false:=by
 have:=xF k g1 l hl h l.length k 0 qom qom
 rw[show((0:Nat):Int)=0 from rfl] at this
 simp only[dn.f,bf.f,this,qzb]
 rfl
structure gb (e:GEng):Prop where
 rules:dO e.Rules=true
 len:e.Graphs.length=e.Rules.length
 evs:fI e.Events=true
 graphs:∀g∈e.Graphs,iz (aF e.Events) e.Events.length g
 keys:e.Keys.length=4∧∀x∈e.Keys,0≤x∧x≤1000
 fired:e.Fired.length≤500000+2000 * e.Events.length∧∀f∈e.Fired,(0≤f.Rule∧f.Rule<e.Rules.length)∧dv f.Occ=true∧eG e.Events.length f.Occ
theorem AV (k:Nat) (hk:2000000000000≤k) {e:GEng} (h:gb e):iV.f k e=some true:=by
 have hev:=dS h.evs
 have hfew:=fj h.rules
 have hlen:=h.len
 unfold iV.f
 rw[qh k qom e.Rules qom (fun r hr=>(ef h.rules hr).small),h.rules]
 simp only[qzb,if_true]
 rw[if_pos (by rw[hlen]),Ho k e.Events qom qom,h.evs]
 simp only[qzb,if_true]
 rw[if_pos (by rw[h.keys.1];rfl)]
 rw[AA k qom (fun y0=>gJ.f k y0 e) e.Graphs qom (fun g hg=>by
  simp only[gJ.f,wg k hk e (tN e.Events qom) (h.graphs g hg)]
  rfl)]
 simp only[qzb,qzw,if_false]
 rw[Ft k qom (fun y0=>gG.f y0) e.Keys (by rw[h.keys.1];omega) (fun x hx=>by
  have:=h.keys.2 x hx
  simp only[gG.f,fh,qzb,qzi,xG,qzf,decide_eq_true_eq]
  exact this)]
 simp only[qzb,qzw,if_false]
 rw[Cn k qom (fun y0=>gH.f k y0 e) e.Fired (by have:=h.fired.1;omega) (fun f hf=>by
  obtain⟨h1,h2,h3⟩:=h.fired.2 f hf
  have hid:f.Occ.Ids.length≤24:=cp ((eV f.Occ).1 h2).2.2.2.2
  obtain⟨z,q1,_,q3⟩:=wQ h3 qom
  have e1:bv.f f.Rule 0 (IntKind.wrap .i64 ((e.Rules.length:Int)-1))=some true:=by
   rw[wr _ qom]
   simp only[fh,qzi,qzf,decide_eq_true_eq];omega
  simp only[gH.f,e1,qzb,if_true]
  rw[nz f.Occ qom k qom,h2]
  simp only[qzb,if_true,q1,qzi,xG,decide_eq_true_eq]
  exact q3)]
 rfl
theorem Fr {a b:GOcc} (h:a.To<b.To):bK a b=true:=(CV a b).2 (.inl h)
theorem C5 {l m:List GOcc} (hl:Asc l) (hm:Asc m) (h:∀x∈l,∀y∈m,x.To<y.To):Asc (l++m):=List.pairwise_append.2 ⟨hl,hm,fun x hx y hy=>Fr (h x hx y hy)⟩
def iZ (ns:List GNode):Int:=(ns.getLast?.map (·.Many)).getD 0
theorem xe {T:Int} {mode seen t:Int} {ev:Option Int} {es:List GEx} {ns:List GNode} (hR:Rep es ns) (h1:1≤ns.length):iZ (ax mode seen t ev ns).1=iZ ns+((gP (ax mode seen t ev ns).2).length:Nat):=by
 have pl:=gz mode seen t ev ns
 have hi:ns.length-1<ns.length:=by omega
 obtain⟨p1,p2⟩:=ng (mode:=mode) (seen:=seen) (t:=t) (ev:=ev) hR (qzc hi)
 have k5:=(ke (mode:=mode) (seen:=seen) (t:=t) (ev:=ev) (found:=(ax mode seen t ev ns).2) (n:=ns[ns.length-1])).2.2.2.2
 unfold iZ gP
 rw[qzU,qzU,qzU,pl.1,pl.2,p1,p2,qzc hi]
 simp only[qzQ,yA]
 show(aw mode seen t ev (ax mode seen t ev ns).2 ns[ns.length-1]).1.Many+_=_
 rw[k5]
theorem zc {mode seen before:Int} {es:List GEx} (hs:0≤seen∧seen≤23) (T0:Int):∀(f:Nat) (ns:List GNode) (out:List GOcc) (T:Int),gl T es ns→T0≤T→T<before→(before-T).toNat≤f→Asc out→(∀o∈out,T0<o.To∧o.To≤T)→
  (cK mode seen before f ns out).2.1=false→Asc (cK mode seen before f ns out).2.2∧(∀o∈(cK mode seen before f ns out).2.2,T0<o.To∧o.To<before)∧iZ (cK mode seen before f ns out).1+(out.length:Nat)=iZ ns+((cK mode seen before f ns out).2.2.length:Nat)
 |0,ns,out,T,h,_,hT,hf,_,_,_=>by omega
 |f+1,ns,out,T,h,h0,hT,hf,ha,ho,hno=>by
  have nl:=oE ns before
  unfold cK at hno⊢
  by_cases hlt:bW ns before<before
  ·rw[if_pos hlt] at hno⊢
   by_cases hfu:dw (ax mode seen (bW ns before) none ns).1=true
   ·rw[if_pos hfu] at hno;cases hno
   ·rw[if_neg hfu] at hno⊢
    have hT':T<bW ns before:=by
     rcases oz ns before with q|⟨n,q1,o,q2,q3⟩
     ·omega
     ·rw[q3];exact((h.2.2 n q1).2.2.2.1 o q2).1
    have hfu':dw (ax mode seen (bW ns before) none ns).1=false:=by simpa using hfu
    have hR:=h.ready (t:=bW ns before) qom
    have pi:=mW (mode:=mode) (ev:=none) h (Int.le_of_lt hT') nl.2 hs hfu'
    obtain⟨e,_,lf⟩:=lu (mode:=mode) (ev:=none) hR h.2.1.1 hs
    have rp:=xe (T:=T) (mode:=mode) (seen:=seen) (t:=bW ns before) (ev:=none) h.1 h.2.1.1
    obtain⟨a,b,c⟩:=zc (mode:=mode) hs T0 f _ (out++gP (ax mode seen (bW ns before) none ns).2) (bW ns before) pi qom hlt qom
     (C5 ha lf.1 (fun x hx y hy=>by rw[lf.2.2.2 y hy];have:=(ho x hx).2;omega))
     (fun o hh=>by rcases List.mem_append.1 hh with q|q;exact⟨(ho o q).1,by have:=(ho o q).2;omega⟩;rw[lf.2.2.2 o q];omega) hno
    refine⟨a,b,?_⟩
    rw[qzg] at c
    omega
  ·rw[if_neg hlt] at hno⊢
   exact⟨ha,fun o hh=>⟨(ho o hh).1,by have:=(ho o hh).2;omega⟩,rfl⟩
theorem Ff {mode seen:Int} {es:List GEx} {ns ns':List GNode} {e:GEv} {out:List GOcc} {T:Int} (h:gl T es ns) (hT:0≤T∧T<e.At∧e.At≤1000) (hs:0≤seen∧seen≤23) (hst:iv mode seen ns e=some (ns',out)) :
  gl e.At es ns'∧Ids out∧Asc out∧(∀o∈out,T<o.To∧o.To≤e.At)∧iZ ns'=iZ ns+(out.length:Nat)∧0≤iZ ns∧iZ ns'≤40:=by
 obtain⟨i1,i2,_⟩:=GG h hT hs hst
 unfold iv at hst
 split at hst
 ·cases hst
 split at hst
 ·cases hst
 rename_i h1 h2
 cases hst
 obtain⟨T',a,b,c,d,f,g⟩:=oT (mode:=mode) (before:=e.At) hs 1001 ns [] T h hT.2.1 qom (fun o hh=>by simp at hh) (by simp) (by simpa using h1)
 obtain⟨m1,m2,m3⟩:=zc (mode:=mode) (before:=e.At) hs T 1001 ns [] T h (mm _) hT.2.1 qom (by simp[Asc]) (fun o hh=>by simp at hh) (by simpa using h1)
 have hR:=c.ready (t:=e.At) qom
 obtain⟨x,_,lf⟩:=lu (mode:=mode) (ev:=some e.Sym) hR c.2.1.1 hs
 have rp:=xe (T:=T) (mode:=mode) (seen:=seen) (t:=e.At) (ev:=some e.Sym) c.1 c.2.1.1
 refine⟨i1,i2,C5 m1 lf.1 (fun x hx y hy=>by rw[lf.2.2.2 y hy];exact(m2 x hx).2),fun o hh=>?_,?_,?_,?_⟩
 ·rcases List.mem_append.1 hh with q|q
  ·have:=m2 o q;omega
  ·rw[lf.2.2.2 o q];omega
 ·rw[rp,qzg]
  simp only[pD] at m3
  omega
 ·unfold iZ
  cases hq:ns.getLast? with
  |none=>simp
  |some m=>have:=(h.2.2 m (Ca hq)).2.1.1;simpa using this
 ·unfold iZ
  cases hq:(ax mode seen e.At (some e.Sym) (cK mode seen e.At 1001 ns []).1).1.getLast? with
  |none=>simp
  |some m=>have:=(i1.2.2 m (Ca hq)).2.1.2;simpa using this
theorem E3:∀e:GEx,exN e≤1000000→∀k:Nat,1000000000000+exN e≤k→bO.f k e=some e:=by
 refine jC fun e ih hn k hk=>?_
 rw[dG] at hn hk
 obtain⟨k,rfl⟩:=qsc k
 have hq:=ig e.Kids
 have:=ic e.Kids id (bO.l0 k (bO.f k) e) (fun N acc=>by rw[bO.l0,if_neg qom])
  (fun N acc i h ha=>by
   have hm:=eQ (qze h)
   rw[bO.l0,if_pos qom,ac qom,qzd,qzc h]
   simp only[qzb]
   rw[ih _ (qze h) qom k qom]
   simp only[qzb]
   rw[ac qom,wrS i qom];rfl) k qom
 rw[bO.f,this,qW];cases e;rfl
theorem Bn (k:Nat) (hk:2000000000000≤k) (l:List GRule) (hl:l.length≤1000000) (h:∀r∈l,exN r.Ex≤1000000):cw.f k l=some l:=by
 have:=ic l id (cw.l0 k l) (fun N acc=>by rw[cw.l0,if_neg qom])
  (fun N acc i hi ha=>by
   have hm:=h _ (qze hi)
   rw[cw.l0,if_pos qom,ac qom,qzd,qzc hi]
   simp only[qzb,jD.f]
   rw[E3 _ hm k qom]
   simp only[qzb]
   rw[ac qom,wrS i qom]
   generalize l[i]=z
   obtain⟨a,b,c,⟨d1,d2,d3,d4⟩,e,f,g,u,v⟩:=z
   rfl) k qom
 unfold cw.f
 rw[this,qW];rfl
theorem se (k:Nat) (hk:2000000000000≤k) (l:List GFire) (hl:l.length≤1000000) (h:∀f∈l,Few f.Occ):cf.f k l=some l:=by
 have:=ic l id (cf.l0 k l) (fun N acc=>by rw[cf.l0,if_neg qom])
  (fun N acc i hi ha=>by
   rw[cf.l0,if_pos qom,ac qom,qzd,qzc hi]
   simp only[qzb]
   rw[tZ _ (h _ (qze hi))]
   simp only[qzb]
   rw[ac qom,wrS i qom];rfl) k qom
 unfold cf.f
 rw[this,qW];rfl
def DO (n:GNode):Prop:=n.Kids.length≤1000∧(∀l∈[n.Pair.Left,n.Pair.Right,n.Span.Left,n.Span.Mid,n.Due],l.length≤1000∧ga l)
theorem CO (k:Nat) (hk:1000000000000≤k) (n:GNode) (h:DO n):gW.f k n=some n:=by
 have c:∀l∈[n.Pair.Left,n.Pair.Right,n.Span.Left,n.Span.Mid,n.Due],bI.f k l=some l:=fun l hl=>Cv k hk l (by have:=(h.2 l hl).1;omega) (h.2 l hl).2
 have h1:=h.1
 unfold gW.f jB.f jF.f
 rw[ac qom,c _ (by simp),c _ (by simp),c _ (by simp),c _ (by simp),c _ (by simp)]
 rfl
theorem AO (k:Nat) (hk:1000000000000≤k) (g:GGraph) (hl:g.Nodes.length≤1000) (h:∀n∈g.Nodes,DO n):ck.f k g=some g:=by
 have:=ic g.Nodes id (ck.l0 k g) (fun N acc=>by rw[ck.l0,if_neg qom])
  (fun N acc i hi ha=>by
   rw[ck.l0,if_pos qom,ac qom,qzd,qzc hi]
   simp only[qzb]
   rw[CO k hk _ (h _ (qze hi))]
   simp only[qzb]
   rw[ac qom,wrS i qom];rfl) k qom
 unfold ck.f
 rw[this,qW];rfl
theorem iz.slim {now:Int} {seen:Nat} {g:GGraph} (h:iz now seen g):g.Nodes.length≤12∧∀n∈g.Nodes,DO n:=by
 obtain⟨es,hi⟩:=h.inv
 refine⟨hi.2.1.2,fun n hn=>⟨by have:=hi.1.kids3 n hn;omega,?_⟩⟩
 obtain⟨o1,o2,o3,o4,o5⟩:=ml hi hn (h.made n hn) h.late
 intro l hl
 simp only[qzp,sM,or_false] at hl
 have one:∀{l},dy l=true→l.length≤1000∧ga l:=fun q=>⟨by have:=jf q;omega,qU q⟩
 rcases hl with rfl|rfl|rfl|rfl|rfl
 ·exact one o1
 ·exact one o2
 ·exact one o3
 ·exact one o4
 ·exact one o5
theorem Dw (l:List GEv) (hl:l.length≤1000):jn.f l=some l:=by
 unfold jn.f;rw[ac qom]
theorem pe (k:Nat) (hk:2000000000000≤k) {e:GEng} (h:gb e):bV.f k e=some e:=by
 have hev:=dS h.evs
 have hfew:=fj h.rules
 have hlen:=h.len
 have hf:=h.fired.1
 have hk4:=h.keys.1
 have:=ic e.Graphs id (bV.l0 k e) (fun N acc=>by rw[bV.l0,if_neg qom])
  (fun N acc i hi ha=>by
   have g:=(h.graphs _ (qze hi)).slim
   rw[bV.l0,if_pos qom,ac qom,qzd,qzc hi]
   simp only[qzb]
   rw[AO k qom _ qom g.2]
   simp only[qzb]
   rw[ac qom,wrS i qom];rfl) k qom
 unfold bV.f
 rw[Bn k hk e.Rules qom (fun r hr=>(ef h.rules hr).small.2),Dw e.Events qom]
 simp only[qzb]
 rw[ac qom,se k hk e.Fired qom (fun f hf=>by
  have:=cp ((eV f.Occ).1 (h.fired.2 f hf).2.1).2.2.2.2
  show f.Occ.Ids.length≤1000;omega)]
 simp only[qzb]
 rw[this,qW];rfl
/-- the graph of a rule, before anything has happened -/
def B0 (r:GRule):GGraph:=⟨r.Mode,(fZ r.Ex []).2,0,0,false⟩
def qI (l:List GRule):GEng:=⟨l,l.map B0,[],Hb,[]⟩
theorem FS {r:GRule} (h:wC r):iz 0 0 (B0 r):=by
 have hf:=sq h.ex
 obtain⟨es,hG,_⟩:=ET (x:=r.Ex) ⟨hf.2,hf.1⟩
 obtain⟨es',nx,a1,a2,a3,a4,_⟩:=CX r.Ex ⟨hf.2,hf.1⟩ [] [] yd
 rw[qzP] at a1
 refine⟨⟨es,hG⟩,by omega,rfl,rfl,by omega,h.mode,rfl,fun n hn=>?_⟩
 have hn':n∈nx:=by rw[←a1];exact hn
 obtain⟨f1,f2,f3,f4⟩:=a4 n hn'
 unfold kr
 rw[f1,f2,f3]
 exact⟨All.nil,All.nil,All.nil,All.nil,All.nil⟩
theorem HL {l:List GRule} (h:dO l=true):gb (qI l):=by
 refine⟨h,by simp[qI],rfl,fun g hg=>?_,⟨rfl,fun x hx=>?_⟩,by simp[qI],fun f hf=>by simp[qI] at hf⟩
 ·obtain⟨r,hr,rfl⟩:=List.mem_map.1 hg
  exact FS (ef h hr)
 ·have:x=0:=by simp[qI,Hb] at hx;exact hx
  omega
def fo (o:GOcc):Int:=o.Ids.getLast?.getD 0
theorem Ik {s:Int} {o:GOcc} (h:eG s o) (hl:o.Ids.length≤1000):dI.f o=some (fo o)∧fo o∈o.Ids:=by
 have h1:=List.length_pos_iff.2 h.2.2.1
 obtain⟨m,hm⟩:∃m,o.Ids.length=m+1:=⟨o.Ids.length-1,by omega⟩
 unfold dI.f fo
 rw[qzU,hm,wrP m qom,ac qom,qzd,Nat.add_sub_cancel,qzc qom]
 exact⟨rfl,qze _⟩
def dU (e:GEng) (i:Nat) (o:GOcc) (q:Graiser):Int×GEng×Graiser:=
 match e.Rules[i]?,e.Events[(fo o).toNat]? with
 |some r,some x=>if r.Low≤x.Val∧x.Val≤r.High then
   (if 0≤e.Keys.getD r.Key.toNat 0+r.Add∧e.Keys.getD r.Key.toNat 0+r.Add≤1000 then
    (if r.Raise<0 then(0,⟨e.Rules,e.Graphs,e.Events,e.Keys.set r.Key.toNat (e.Keys.getD r.Key.toNat 0+r.Add),e.Fired++[⟨(i:Int),o⟩]⟩,q)
     else if q.raised=6 then(1,⟨e.Rules,e.Graphs,e.Events,e.Keys.set r.Key.toNat (e.Keys.getD r.Key.toNat 0+r.Add),e.Fired++[⟨(i:Int),o⟩]⟩,q)
     else(0,⟨e.Rules,e.Graphs,e.Events,e.Keys.set r.Key.toNat (e.Keys.getD r.Key.toNat 0+r.Add),e.Fired++[⟨(i:Int),o⟩]⟩,⟨q.queue++[⟨r.Raise,0,x.Val⟩],q.raised+1⟩))
    else(3,e,q))
  else(0,e,q)
 |_,_=>(0,e,q)
def fO (i:Nat):List GOcc→GEng→Graiser→Int×GEng×Graiser
 |[],e,q=>(0,e,q)
 |o::l,e,q=>if(dU e i o q).1=0 then fO i l (dU e i o q).2.1 (dU e i o q).2.2 else dU e i o q
def kR (x:GEv) (i:Nat) (e:GEng) (q:Graiser):Int×GEng×Graiser:=match e.Graphs[i]? with
 |some g=>(match iv g.Mode g.Seen g.Nodes x with
  |some r=>fO i r.2 ⟨e.Rules,e.Graphs.set i ⟨g.Mode,r.1,g.Seen+1,x.At,false⟩,e.Events,e.Keys,e.Fired⟩ q
  |none=>(2,⟨e.Rules,e.Graphs.set i ⟨g.Mode,[],g.Seen+1,x.At,true⟩,e.Events,e.Keys,e.Fired⟩,q))
 |none=>(0,e,q)
def fQ (x:GEv):List Int→GEng→Graiser→Int×GEng×Graiser
 |[],e,q=>(0,e,q)
 |i::l,e,q=>if(kR x i.toNat e q).1=0 then fQ x l (kR x i.toNat e q).2.1 (kR x i.toNat e q).2.2 else kR x i.toNat e q
def aQ (e:GEng) (x:GEv) (q:Graiser):Int×GEng×Graiser:=
 if e.Events.length=24∨1000<x.At then(2,e,q) else fQ x (eE e.Rules) ⟨e.Rules,e.Graphs,e.Events++[x],e.Keys,e.Fired⟩ q
def ci:Nat→GEng→Graiser→Int→Int×GEng
 |0,e,_,_=>(0,e)
 |f+1,e,q,s=>match q.queue with
  |[]=>(0,e)
  |x::r=>if(aQ e ⟨x.Sym,aF e.Events+s,x.Val⟩ ⟨r,q.raised⟩).1=0 then ci f (aQ e ⟨x.Sym,aF e.Events+s,x.Val⟩ ⟨r,q.raised⟩).2.1 (aQ e ⟨x.Sym,aF e.Events+s,x.Val⟩ ⟨r,q.raised⟩).2.2 1
   else((aQ e ⟨x.Sym,aF e.Events+s,x.Val⟩ ⟨r,q.raised⟩).1,(aQ e ⟨x.Sym,aF e.Events+s,x.Val⟩ ⟨r,q.raised⟩).2.1)
def fU (e:GEng) (sym gap val:Int):GEng×Int×List GFire:=
 if(ci 8 e ⟨[⟨sym,0,val⟩],0⟩ gap).1=0 then((ci 8 e ⟨[⟨sym,0,val⟩],0⟩ gap).2,0,(ci 8 e ⟨[⟨sym,0,val⟩],0⟩ gap).2.Fired.drop e.Fired.length)
 else(e,(ci 8 e ⟨[⟨sym,0,val⟩],0⟩ gap).1,[])
/-- what is kept while rules fire -/
structure Own (c:Nat) (e:GEng):Prop where
 rules:dO e.Rules=true
 evs:fI e.Events=true
 keys:e.Keys.length=4∧∀x∈e.Keys,0≤x∧x≤1000
 fired:e.Fired.length≤c∧∀f∈e.Fired,(0≤f.Rule∧f.Rule<e.Rules.length)∧dv f.Occ=true∧eG e.Events.length f.Occ
structure QI (m:Int) (q:Graiser):Prop where
 evs:∀e∈q.queue,0≤e.Sym∧e.Sym<5∧0≤e.Val∧e.Val≤100
 raised:0≤q.raised∧q.raised≤6
 sum:(q.queue.length:Int)+6≤m+q.raised
/-- what firing leaves as it was -/
structure kW (e f:GEng):Prop where
 rules:f.Rules=e.Rules
 graphs:f.Graphs=e.Graphs
 evs:f.Events=e.Events
 fired:∃more,f.Fired=e.Fired++more
theorem kW.refl (e:GEng):kW e e:=⟨rfl,rfl,rfl,[],by simp⟩
theorem kW.trans {a b c:GEng} (h:kW a b) (g:kW b c):kW a c:=by
 obtain⟨m,hm⟩:=h.fired
 obtain⟨n,hn⟩:=g.fired
 exact⟨g.rules.trans h.rules,g.graphs.trans h.graphs,g.evs.trans h.evs,m++n,by rw[hn,hm,qzl]⟩
theorem E6 {l:List GEv} (h:fI l=true) {x:GEv} (hx:x∈l):0≤x.Val∧x.Val≤100:=by
 have:=vt h hx
 unfold jV at this
 simp only[qzf,decide_eq_true_eq] at this
 omega
theorem GU {l:List Int} (h:l.length=4∧∀x∈l,0≤x∧x≤1000) (i:Nat) {v:Int} (hv:0≤v∧v≤1000):(l.set i v).length=4∧∀x∈l.set i v,0≤x∧x≤1000:=by
 refine⟨by rw[List.length_set];exact h.1,fun x hx=>?_⟩
 rcases List.mem_or_eq_of_mem_set hx with q|q
 ·exact h.2 x q
 ·rw[q];exact hv
theorem EM {c:Nat} {m:Int} {e:GEng} {q:Graiser} (h:Own c e) (hc:c≤900000) (hq:QI m q) (hm:m≤100) {i:Nat} (hi:i<e.Rules.length) {o:GOcc} (ho:dv o=true) (hmd:eG e.Events.length o) :
  jk.f e (i:Int) o q=some (dU e i o q)∧Own (c+1) (dU e i o q).2.1∧kW e (dU e i o q).2.1∧QI m (dU e i o q).2.2:=by
 have hids:=((eV o).1 ho).2.2.2.2
 have hil:=cp hids
 obtain⟨lk,lm⟩:=Ik hmd qom
 have l0:=(hids.2 _ lm).1
 have l1:=hmd.2.2.2 _ lm
 have hlt:(fo o).toNat<e.Events.length:=by omega
 have hr:=ef h.rules (qze hi)
 have hev:=E6 h.evs (qze hlt)
 have hkl:=h.keys.1
 have hkey:=hr.key
 have hadd:=hr.add
 have hraise:=hr.raise
 have hfl:=h.fired.1
 have hkn:(e.Rules[i]).Key.toNat<e.Keys.length:=by omega
 have hk0:=h.keys.2 _ (qze hkn)
 have hg:e.Keys.getD (e.Rules[i]).Key.toNat 0=e.Keys[(e.Rules[i]).Key.toNat]:=by rw[qzB,qzc hkn];rfl
 have hz:Own (c+1) e:=⟨h.rules,h.evs,h.keys,by omega,h.fired.2⟩
 unfold jk.f iH.f dU
 rw[ac qom,qzd,qzc hi,lk,qzc hlt]
 simp only[qzb]
 rw[ac qom,qzc hlt]
 simp only[qzb]
 rw[fh]
 simp only[qzb]
 by_cases h1:(e.Rules[i]).Low≤(e.Events[(fo o).toNat]).Val∧(e.Events[(fo o).toNat]).Val≤(e.Rules[i]).High
 rotate_left
 ·rw[if_neg (by simpa using h1),if_neg h1]
  exact⟨rfl,hz,kW.refl e,hq⟩
 rw[if_pos (by simpa using h1),if_pos h1,ac qom,ac qom,qzc hkn]
 simp only[qzb]
 rw[wr _ qom,fh,hg]
 simp only[qzb]
 by_cases h2:0≤e.Keys[(e.Rules[i]).Key.toNat]+(e.Rules[i]).Add∧e.Keys[(e.Rules[i]).Key.toNat]+(e.Rules[i]).Add≤1000
 rotate_left
 ·rw[if_neg (by simpa using h2),if_neg h2]
  exact⟨rfl,hz,kW.refl e,hq⟩
 rw[if_pos (by simpa using h2),if_pos h2,ac qom,ac qom,ac qom,ac qom,ac qom]
 have hown:Own (c+1) ⟨e.Rules,e.Graphs,e.Events,e.Keys.set (e.Rules[i]).Key.toNat (e.Keys[(e.Rules[i]).Key.toNat]+(e.Rules[i]).Add),e.Fired++[⟨(i:Int),o⟩]⟩:=by
  refine⟨h.rules,h.evs,GU h.keys _ h2,by rw[qzg,qzo];omega,fun f hf=>?_⟩
  rcases List.mem_append.1 hf with p|p
  ·exact h.fired.2 f p
  ·rw[List.mem_singleton.1 p];exact⟨⟨by show(0:Int)≤(i:Int);omega,by show(i:Int)<(e.Rules.length:Nat);omega⟩,ho,hmd⟩
 have hsame:kW e ⟨e.Rules,e.Graphs,e.Events,e.Keys.set (e.Rules[i]).Key.toNat (e.Keys[(e.Rules[i]).Key.toNat]+(e.Rules[i]).Add),e.Fired++[⟨(i:Int),o⟩]⟩:=⟨rfl,rfl,rfl,_,rfl⟩
 by_cases h3:(e.Rules[i]).Raise<0
 ·rw[if_pos h3,if_pos h3]
  exact⟨rfl,hown,hsame,hq⟩
 rw[if_neg h3,if_neg h3]
 by_cases h4:q.raised=6
 ·rw[if_pos h4,if_pos h4]
  exact⟨rfl,hown,hsame,hq⟩
 rw[if_neg h4,if_neg h4]
 have hqr:=hq.raised
 have hqs:=hq.sum
 rw[ac qom,wr _ qom]
 refine⟨rfl,hown,hsame,fun x hx=>?_,by dsimp only;omega,by dsimp only;rw[qzg,qzo];omega⟩
 rcases List.mem_append.1 hx with p|p
 ·exact hq.evs x p
 ·rw[List.mem_singleton.1 p];dsimp only;omega
abbrev Flat:=(List GRule)×(List GGraph)×(List GEv)×(List Int)×(List GFire)×(List GEv)×Int
def Hk (e:GEng) (q:Graiser):Flat:=(e.Rules,e.Graphs,e.Events,e.Keys,e.Fired,q.queue,q.raised)
def exM (r:Int×GEng×Graiser):Except (Int×GEng×Graiser) Flat:=if r.1=0 then .ok (Hk r.2.1 r.2.2) else .error r
theorem Dl (k:Nat) (i:Nat) (y:(List GOcc)×GGraph) (m:Int) (hm:m≤100) (hy:y.1.length≤1000):∀(d j N:Nat) (e:GEng) (q:Graiser) (c:Nat),j+d=y.1.length→d<N→Own c e→c+d≤900000→QI m q→i<e.Rules.length→(∀o∈y.1,dv o=true∧eG e.Events.length o)→
  aW.l3 k (i:Int) y N e.Rules e.Graphs e.Events e.Keys e.Fired q.queue q.raised (j:Int)=some (exM (fO i (y.1.drop j) e q))∧Own (c+d) (fO i (y.1.drop j) e q).2.1∧kW e (fO i (y.1.drop j) e q).2.1∧QI m (fO i (y.1.drop j) e q).2.2:=by
 intro d
 induction d with
 |zero=>
  intro j N e q c hj hN ho hc hq hi hF
  obtain⟨N,rfl⟩:=qsc N
  rw[aW.l3,if_neg qom,qzn qom]
  exact⟨rfl,ho,kW.refl e,hq⟩
 |succ d ih=>
  intro j N e q c hj hN ho hc hq hi hF
  obtain⟨N,rfl⟩:=qsc N
  have hlt:j<y.1.length:=by omega
  have hf:=hF _ (qze hlt)
  obtain⟨f1,f2,f3,f4⟩:=EM ho qom hq hm hi hf.1 hf.2
  rw[aW.l3,if_pos qom,ac qom,ac qom,qzd,qzc hlt]
  simp only[qzb]
  rw[show(⟨e.Rules,e.Graphs,e.Events,e.Keys,e.Fired⟩:GEng)=e from rfl,show(⟨q.queue,q.raised⟩:Graiser)=q from rfl,f1]
  simp only[qzb]
  rw[qzj hlt]
  unfold fO
  by_cases h0:(dU e i y.1[j] q).1=0
  ·rw[if_pos h0,if_pos h0,wrS j qom]
   obtain⟨g1,g2,g3,g4⟩:=ih (j+1) N (dU e i y.1[j] q).2.1 (dU e i y.1[j] q).2.2 (c+1) qom qom f2 qom f4 (by rw[f3.rules];exact hi) (fun o hh=>by rw[f3.evs];exact hF o hh)
   exact⟨g1,by rw[show c+(d+1)=c+1+d by omega];exact g2,f3.trans g3,g4⟩
  ·rw[if_neg h0,if_neg h0]
   refine⟨?_,⟨f2.rules,f2.evs,f2.keys,by have:=f2.fired.1;omega,f2.fired.2⟩,f3,f4⟩
   unfold exM
   rw[if_neg h0]
theorem HA {T:Int} {es:List GEx} {ns:List GNode} (h:gl T es ns):∀n∈ns,0≤n.N:=fun n hn=>by
 obtain⟨i,hi,rfl⟩:=List.mem_iff_getElem.1 hn
 obtain⟨e,he,hx,hR⟩:=h.1.2 i ns[i] (qzc hi)
 have hh:eH e=true:=by have:=hx.1;rw[iR] at this;simp only[qzf] at this;exact this.1
 unfold eH at hh
 simp only[qzf,decide_eq_true_eq,sf] at hh
 have hN:=hh.2
 rw[hR.2.2.1]
 split at hN
 ·simp only[qzf,decide_eq_true_eq] at hN;omega
 ·simp only[decide_eq_true_eq] at hN;omega
/-- an event at a rule's graph -/
theorem wO (k:Nat) (hk:1000000000000≤k) {now:Int} {seen:Nat} {g:GGraph} (h:iz now seen g) (hs:seen≤23) {x:GEv} (hx:now<x.At∧x.At≤1000) :
  ce.f k g x=some (match iv g.Mode g.Seen g.Nodes x with|none=>([],⟨g.Mode,[],g.Seen+1,x.At,true⟩)|some r=>(r.2,⟨g.Mode,r.1,g.Seen+1,x.At,false⟩))∧
  ∀r,iv g.Mode g.Seen g.Nodes x=some r→iz x.At (seen+1) ⟨g.Mode,r.1,g.Seen+1,x.At,false⟩∧r.2.length≤40∧(∀o∈r.2,dv o=true∧eG ((seen+1:Nat):Int) o)∧Asc r.2∧(∀o∈r.2,now<o.To∧o.To≤x.At)∧iZ r.1=iZ g.Nodes+(r.2.length:Nat)∧0≤iZ g.Nodes∧iZ r.1≤40:=by
 obtain⟨es,hi⟩:=h.inv
 have hl:=h.late
 have hse:=h.seen'
 have hT:0≤now∧now<x.At∧x.At≤1000:=⟨hl.1,hx.1,hx.2⟩
 have hS:0≤g.Seen∧g.Seen≤23:=by omega
 refine⟨HO k hk x g es now hi hT hS h.full,fun r hr=>?_⟩
 obtain⟨r1,r2⟩:=r
 obtain⟨m1,m2,m3,m4,m5,m6,m7⟩:=Ff hi hT hS hr
 have hN:=HA hi
 obtain⟨a1,a2,a3⟩:=GA (DK ((seen+1:Nat):Int)) (mode:=g.Mode) (seen:=g.Seen) (e:=x) (ns:=g.Nodes) ⟨by dsimp only;omega,by dsimp only;omega,by simp,fun z hz=>by rw[List.mem_singleton.1 hz];omega⟩ (fun n hn o ho=>EB (hN n hn) ho)
  (fun n hn=>by
   obtain⟨b1,b2,b3,b4,b5⟩:=h.made n hn
   have mn:∀{l},All (eG seen) l→All (eG ((seen+1:Nat):Int)) l:=fun q o ho=>(q o ho).mono qom
   exact⟨mn b1,mn b2,mn b3,mn b4,mn b5⟩) hr
 refine⟨⟨⟨es,m1⟩,by omega,rfl,by dsimp only;omega,by omega,h.mode,rfl,a2⟩,by dsimp only at m5 m7⊢;omega,fun o ho=>⟨?_,a3 o ho⟩,m3,m4,m5,m6,m7⟩
 have md:=a3 o ho
 have mt:=m4 o ho
 exact(eV o).2 ⟨md.1,md.2.1,by omega,by have:=List.length_pos_iff.2 md.2.2.1;omega,m2 o ho⟩
structure Mid (e0:GEng) (x:GEv) (left:List Int) (e:GEng):Prop where
 rules:e.Rules=e0.Rules
 evs:e.Events=e0.Events++[x]
 len:e.Graphs.length=e0.Rules.length
 old:∀i:Nat,(i:Int)∈left→e.Graphs[i]? =e0.Graphs[i]?
 new:∀i:Nat,(i:Int)∉left→∀g,e.Graphs[i]? =some g→iz x.At (e0.Events.length+1) g
theorem Df (k:Nat) (hk:1000000000000≤k) {e0:GEng} (h0:gb e0) {x:GEv} (hx:aF e0.Events<x.At∧x.At≤1000) (h23:e0.Events.length≤23) (m:Int) (hm:m≤100) (os:List Int) (hos:∀i∈os,∃j:Nat,j<e0.Rules.length∧i=j) (hnd:os.Nodup) (hol:os.length≤4) :
  ∀(d j N:Nat) (e:GEng) (q:Graiser) (c:Nat),j+d=os.length→d<N→Mid e0 x (os.drop j) e→Own c e→c+40 * d≤800000→QI m q→
  aW.l2 k x os N e.Rules e.Graphs e.Events e.Keys e.Fired q.queue q.raised (j:Int)=some (exM (fQ x (os.drop j) e q))∧
  ((fQ x (os.drop j) e q).1=0→Mid e0 x [] (fQ x (os.drop j) e q).2.1∧Own (c+40 * d) (fQ x (os.drop j) e q).2.1∧QI m (fQ x (os.drop j) e q).2.2∧∃more,(fQ x (os.drop j) e q).2.1.Fired=e.Fired++more):=by
 intro d
 induction d with
 |zero=>
  intro j N e q c hj hN hM ho hc hq
  obtain⟨N,rfl⟩:=qsc N
  rw[qzn qom] at hM⊢
  rw[aW.l2,if_neg qom]
  exact⟨rfl,fun _=>⟨hM,ho,hq,[],by simp[fQ]⟩⟩
 |succ d ih=>
  intro j N e q c hj hN hM ho hc hq
  obtain⟨N,rfl⟩:=qsc N
  have hlt:j<os.length:=by omega
  obtain⟨i,hi,he⟩:=hos _ (qze hlt)
  have hdrop:os.drop j=(i:Int)::os.drop (j+1):=by rw[qzj hlt,he]
  have hnot:(i:Int)∉os.drop (j+1):=by
   have:(os.drop j).Nodup:=hnd.sublist (List.drop_sublist j os)
   rw[hdrop] at this
   exact(List.nodup_cons.1 this).1
  rw[hdrop] at hM⊢
  have hgl:=hM.len
  have hig:i<e.Graphs.length:=by omega
  have hig0:i<e0.Graphs.length:=by rw[h0.len];exact hi
  have hge:e.Graphs[i]? =some e0.Graphs[i]:=by rw[hM.old i (by simp),qzc hig0]
  obtain⟨s1,s2⟩:=wO k hk (h0.graphs _ (qze hig0)) h23 hx
  rw[aW.l2,if_pos qom,ac qom,ac qom,qzd,qzc hlt]
  simp only[qzb]
  rw[he,ac qom,ac qom,qzd,hge]
  simp only[qzb]
  rw[s1]
  unfold fQ kR
  rw[qzd,hge]
  simp only[]
  cases hst:iv e0.Graphs[i].Mode e0.Graphs[i].Seen e0.Graphs[i].Nodes x with
  |none=>
   simp only[qzb,if_true]
   rw[if_neg (show ¬(2:Int)=0 by decide)]
   refine⟨?_,fun q=>by simp at q⟩
   unfold exM
   rw[if_neg (show ¬(2:Int)=0 by decide)]
  |some r=>
   obtain⟨t1,t2,t3,t4,t5,t6⟩:=s2 r hst
   simp only[qzb,qzw,if_false]
   have hev:e.Events.length=e0.Events.length+1:=by rw[hM.evs,qzg,qzo]
   obtain⟨f1,f2,f3,f4⟩:=Dl k i (r.2,⟨e0.Graphs[i].Mode,r.1,e0.Graphs[i].Seen+1,x.At,false⟩) m hm (by dsimp only;omega) r.2.length 0 k ⟨e.Rules,e.Graphs.set i ⟨e0.Graphs[i].Mode,r.1,e0.Graphs[i].Seen+1,x.At,false⟩,e.Events,e.Keys,e.Fired⟩ q c (by simp) qom ⟨ho.rules,ho.evs,ho.keys,ho.fired⟩ qom hq (by rw[hM.rules];exact hi) (fun o hh=>by
    have:=t3 o hh
    refine⟨this.1,?_⟩
    rw[hev];exact this.2)
   simp only[qzC] at f1 f2 f3 f4
   rw[show((0:Nat):Int)=0 from rfl] at f1
   rw[f1]
   unfold exM
   by_cases hz:(fO i r.2 ⟨e.Rules,e.Graphs.set i ⟨e0.Graphs[i].Mode,r.1,e0.Graphs[i].Seen+1,x.At,false⟩,e.Events,e.Keys,e.Fired⟩ q).1=0
   ·rw[if_pos hz,if_pos hz]
    simp only[qzb,Hk]
    rw[wrS j qom]
    have hgr:=f3.graphs
    have hmid:Mid e0 x (os.drop (j+1)) (fO i r.2 ⟨e.Rules,e.Graphs.set i ⟨e0.Graphs[i].Mode,r.1,e0.Graphs[i].Seen+1,x.At,false⟩,e.Events,e.Keys,e.Fired⟩ q).2.1:=by
     refine⟨f3.rules.trans hM.rules,f3.evs.trans hM.evs,by rw[hgr,List.length_set];exact hgl,fun a ha=>?_,fun a ha g hg=>?_⟩
     ·rw[hgr,Bd (by intro q;subst q;exact hnot ha)]
      exact hM.old a (by simp[ha])
     ·rw[hgr] at hg
      by_cases hai:a=i
      ·subst hai
       rw[vp hig] at hg
       cases hg
       exact t1
      ·rw[Bd qom] at hg
       exact hM.new a (by simp only[qzp,not_or];exact⟨by omega,ha⟩) g hg
    obtain⟨g1,g2⟩:=ih (j+1) N _ _ (c+r.2.length) qom qom hmid f2 qom f4
    refine⟨g1,fun z=>?_⟩
    obtain⟨p1,p2,p3,more,p4⟩:=g2 z
    obtain⟨more',p5⟩:=f3.fired
    refine⟨p1,⟨p2.rules,p2.evs,p2.keys,by have:=p2.fired.1;omega,p2.fired.2⟩,p3,more'++more,?_⟩
    rw[p4,p5,qzl]
   ·rw[if_neg hz,if_neg hz,if_neg hz]
    exact⟨rfl,fun q=>absurd q hz⟩
theorem mV (k:Nat) (hk:1000000000000≤k) {e:GEng} (h:gb e) {x:GEv} (hx:aF e.Events<x.At∧x.At≤1000000) (hs:0≤x.Sym∧x.Sym<5∧0≤x.Val∧x.Val≤100) (m:Int) (hm:m≤100) {q:Graiser} (hq:QI m q) :
  aW.f k e x q=some (aQ e x q)∧((aQ e x q).1=0→gb (aQ e x q).2.1∧QI m (aQ e x q).2.2∧(aQ e x q).2.1.Rules=e.Rules∧(aQ e x q).2.1.Events=e.Events++[x]∧∃more,(aQ e x q).2.1.Fired=e.Fired++more):=by
 have hev:=dS h.evs
 have hfew:=fj h.rules
 have hlast:0≤aF e.Events:=by
  unfold aF
  cases hl:e.Events.getLast? with
  |none=>simp
  |some z=>
   have:=vt h.evs (Ca hl)
   unfold jV at this
   simp only[qzf,decide_eq_true_eq] at this
   dsimp only;omega
 unfold aW.f aQ
 by_cases h1:e.Events.length=24
 ·rw[if_pos qom,if_pos (.inl h1)]
  exact⟨rfl,fun q=>by simp at q⟩
 rw[if_neg qom]
 by_cases h2:1000<x.At
 ·rw[if_pos h2,if_pos (.inr h2)]
  exact⟨rfl,fun q=>by simp at q⟩
 rw[if_neg h2,if_neg qom,ac qom,H8 k qom e.Rules hfew (fun r hr=>(ef h.rules hr).pri)]
 simp only[qzb]
 have hev':fI (e.Events++[x])=true:=rC h.evs qom (by
  unfold jV
  simp only[qzf,decide_eq_true_eq];omega) hx.1
 have hmid:Mid e x (eE e.Rules) ⟨e.Rules,e.Graphs,e.Events++[x],e.Keys,e.Fired⟩:=by
  refine⟨rfl,rfl,h.len,fun i hi=>rfl,fun i hi g hg=>?_⟩
  exfalso
  exact hi (jR.2 ⟨i,by have:=(List.getElem?_eq_some_iff.1 hg).1;rw[←h.len];exact this,rfl⟩)
 have hown:Own (500000+2000 * e.Events.length) ⟨e.Rules,e.Graphs,e.Events++[x],e.Keys,e.Fired⟩:=by
  refine⟨h.rules,hev',h.keys,h.fired.1,fun f hf=>?_⟩
  obtain⟨a,b,c⟩:=h.fired.2 f hf
  refine⟨a,b,c.mono ?_⟩
  dsimp only
  rw[qzg,qzo];omega
 obtain⟨r1,r2⟩:=Df k hk h (x:=x) ⟨hx.1,by omega⟩ qom m hm (eE e.Rules) (fun i hi=>jR.1 hi) (mF _) (by rw[fx];exact hfew) (eE e.Rules).length 0 k ⟨e.Rules,e.Graphs,e.Events++[x],e.Keys,e.Fired⟩ q _ qom (by rw[fx];omega) hmid hown (by rw[fx];omega) hq
 simp only[qzC] at r1 r2
 rw[show((0:Nat):Int)=0 from rfl] at r1
 rw[r1]
 unfold exM
 generalize fQ x (eE e.Rules) ⟨e.Rules,e.Graphs,e.Events++[x],e.Keys,e.Fired⟩ q=z at r2⊢
 by_cases hz:z.1=0
 ·rw[if_pos hz]
  obtain⟨g1,g2,g3,g4⟩:=r2 hz
  refine⟨?_,fun _=>⟨⟨g2.rules,by rw[g1.len,g1.rules],g2.evs,fun g hg=>?_,g2.keys,?_,g2.fired.2⟩,g3,g1.rules,g1.evs,g4⟩⟩
  ·obtain⟨z1,z2,z3⟩:=z
   dsimp only at hz
   subst hz
   rfl
  ·obtain⟨i,hi,rfl⟩:=List.mem_iff_getElem.1 hg
   have:=g1.new i (by simp) _ (qzc hi)
   rw[g1.evs,Cy,qzg,qzo]
   exact this
  ·have:=g2.fired.1
   rw[fx] at this
   rw[g1.evs,qzg,qzo];omega
 ·rw[if_neg hz]
  exact⟨rfl,fun q=>absurd q hz⟩
theorem jX {l:List GEv} (h:fI l=true):0≤aF l∧aF l≤1000:=by
 unfold aF
 cases hl:l.getLast? with
 |none=>simp
 |some z=>
  have:=vt h (Ca hl)
  unfold jV at this
  simp only[qzf,decide_eq_true_eq] at this
  dsimp only;omega
abbrev Flat5:=(List GRule)×(List GGraph)×(List GEv)×(List Int)×(List GFire)
def exL (e0:GEng) (r:Int×GEng):Except (GEng×Int×List GFire) Flat5:=if r.1=0 then .ok (r.2.Rules,r.2.Graphs,r.2.Events,r.2.Keys,r.2.Fired) else .error (e0,r.1,[])
theorem Fj (k:Nat) (hk:2000000000000≤k) {e0:GEng} (h0:gb e0):∀(f N:Nat) (m:Int) (e:GEng) (q:Graiser) (s:Int),m<(f:Int)→m≤100→f≤N→gb e→QI m q→1≤s∧s≤20→
  cZ.l0 k e0 N e.Rules e.Graphs e.Events e.Keys e.Fired q.queue q.raised s=some (exL e0 (ci f e q s))∧
  ((ci f e q s).1=0→gb (ci f e q s).2∧(ci f e q s).2.Rules=e.Rules∧(∃more,(ci f e q s).2.Fired=e.Fired++more)∧∃evs,(ci f e q s).2.Events=e.Events++evs)
 |0,N,m,e,q,s,hf,_,_,_,hq,_=>by have:=hq.sum;have:=hq.raised;omega
 |f+1,N,m,e,q,s,hf,hm,hN,he,hq,hs=>by
  obtain⟨N,rfl⟩:=qsc N
  have hev:=dS he.evs
  have hla:=jX he.evs
  have hqs:=hq.sum
  have hqr:=hq.raised
  rw[cZ.l0]
  obtain⟨qq,rz⟩:=q
  cases hqq:qq with
  |nil=>
   dsimp only
   rw[if_neg (by simp),show ci (f+1) e ⟨[],rz⟩ s=(0,e) from by rw[ci]]
   exact⟨rfl,fun _=>⟨he,rfl,⟨[],by simp⟩,[],by simp⟩⟩
  |cons x r=>
   subst hqq
   dsimp only at hqs hqr⊢
   have hx:=hq.evs x (by simp)
   rw[if_pos (by simp),ac (by decide),ac (by simp)]
   simp only[qzs,qzb]
   rw[ac (by decide),ac (by simp only[qzm];omega),ac (mm _),tN e.Events qom]
   simp only[qzb]
   rw[wr _ qom]
   have e1:((x::r).drop 1).take ((((x::r).length:Nat):Int)-1).toNat=r:=by
    simp only[List.drop_succ_cons,qzC]
    rw[qzE]
    simp only[qzm];omega
   rw[e1,show(⟨e.Rules,e.Graphs,e.Events,e.Keys,e.Fired⟩:GEng)=e from rfl]
   simp only[qzm] at hqs
   have hq':QI (m-1) ⟨r,rz⟩:=⟨fun z hz=>hq.evs z (by simp[hz]),hqr,by dsimp only;omega⟩
   obtain⟨p1,p2⟩:=mV k qom he (x:=⟨x.Sym,aF e.Events+s,x.Val⟩) ⟨by dsimp only;omega,by dsimp only;omega⟩ hx (m-1) qom hq'
   rw[p1]
   simp only[qzb]
   have hL:ci (f+1) e ⟨x::r,rz⟩ s=if(aQ e ⟨x.Sym,aF e.Events+s,x.Val⟩ ⟨r,rz⟩).1=0 then ci f (aQ e ⟨x.Sym,aF e.Events+s,x.Val⟩ ⟨r,rz⟩).2.1 (aQ e ⟨x.Sym,aF e.Events+s,x.Val⟩ ⟨r,rz⟩).2.2 1
     else((aQ e ⟨x.Sym,aF e.Events+s,x.Val⟩ ⟨r,rz⟩).1,(aQ e ⟨x.Sym,aF e.Events+s,x.Val⟩ ⟨r,rz⟩).2.1):=by rw[ci]
   rw[hL]
   clear hL p1
   generalize aQ e ⟨x.Sym,aF e.Events+s,x.Val⟩ ⟨r,rz⟩=z at p2⊢
   by_cases hz:z.1=0
   ·rw[if_pos hz,if_pos hz]
    obtain⟨g1,g2,g3,g4,more,g5⟩:=p2 hz
    obtain⟨i1,i2⟩:=Fj k hk h0 f N (m-1) z.2.1 z.2.2 1 qom qom qom g1 g2 qom
    refine⟨i1,fun w=>?_⟩
    obtain⟨a,b,⟨more',c⟩,evs,d⟩:=i2 w
    exact⟨a,b.trans g3,⟨more++more',by rw[c,g5,qzl]⟩,_,by rw[d,g4,qzl]⟩
   ·rw[if_neg hz,if_neg hz,pe k hk h0]
    unfold exL
    rw[if_neg hz]
    exact⟨rfl,fun w=>absurd w hz⟩
theorem B7 (k:Nat) (hk:2000000000000≤k) {e:GEng} (h:gb e) {sym gap val:Int} (hc:fN ⟨sym,gap,val⟩=true) :
  cZ.f k e sym gap val=some (fU e sym gap val)∧gb (fU e sym gap val).1∧(fU e sym gap val).1.Rules=e.Rules∧(∃more,(fU e sym gap val).1.Fired=e.Fired++more)∧∃evs,(fU e sym gap val).1.Events=e.Events++evs:=by
 unfold fN at hc
 simp only[qzf,decide_eq_true_eq] at hc
 have hq:QI 7 ⟨[⟨sym,0,val⟩],0⟩:=⟨fun z hz=>by rw[List.mem_singleton.1 hz];dsimp only;omega,by dsimp only;omega,by simp⟩
 obtain⟨l1,l2⟩:=Fj k hk h 8 k 7 e ⟨[⟨sym,0,val⟩],0⟩ gap qom qom qom h hq qom
 unfold cZ.f fU
 rw[pe k hk h]
 simp only[qzb]
 dsimp only at l1
 rw[l1]
 generalize ci 8 e ⟨[⟨sym,0,val⟩],0⟩ gap=z at l2⊢
 unfold exL
 by_cases hz:z.1=0
 ·rw[if_pos hz,if_pos hz]
  obtain⟨a,b,⟨more,c⟩,d⟩:=l2 hz
  simp only[qzb]
  rw[show(⟨z.2.Rules,z.2.Graphs,z.2.Events,z.2.Keys,z.2.Fired⟩:GEng)=z.2 from rfl,pe k hk a]
  simp only[qzb]
  have hl:e.Fired.length≤z.2.Fired.length:=by rw[c,qzg];omega
  rw[ac qom,ac qom,ac (mm _)]
  have e1:(z.2.Fired.drop e.Fired.length).take (((z.2.Fired.length:Nat):Int)-(e.Fired.length:Int)).toNat=z.2.Fired.drop e.Fired.length:=qzE (by rw[qzI];omega)
  have hev:=dS a.evs
  have hfl:=a.fired.1
  rw[e1,se k hk _ (by rw[qzI];omega) (fun f hf=>by
   have:=cp ((eV f.Occ).1 (a.fired.2 f (pI hf)).2.1).2.2.2.2
   show f.Occ.Ids.length≤1000;omega)]
  exact⟨rfl,a,b,⟨more,c⟩,d⟩
 ·rw[if_neg hz,if_neg hz]
  exact⟨rfl,h,rfl,⟨[],by simp⟩,[],by simp⟩
theorem ED (k:Nat) (hk:2000000000000≤k) {e:GEng} (h:gb e) {sym gap val:Int} (hc:fN ⟨sym,gap,val⟩=true) :
  fm.f k e sym gap val=some (fU e sym gap val)∧gb (fU e sym gap val).1∧(fU e sym gap val).1.Rules=e.Rules∧(∃more,(fU e sym gap val).1.Fired=e.Fired++more)∧∃evs,(fU e sym gap val).1.Events=e.Events++evs:=by
 obtain⟨c1,c2⟩:=B7 k hk h hc
 refine⟨?_,c2⟩
 unfold fm.f
 rw[AV k hk h]
 simp only[qzb,if_true]
 rw[qb,hc]
 simp only[qzb,if_true]
 rw[c1];rfl
theorem tU {r r':Gl14Rd} {l:List Int} {v:Int} (h:aE.f r l=some (v,r')):v∈l:=by
 unfold aE.f at h
 obtain⟨x,_,h⟩:=ag h
 obtain⟨_,h⟩:=ae h
 obtain⟨y,hy,h⟩:=ag h
 cases h
 exact qzL hy
theorem wn {k:Nat} {rec':Gl14Rd→Int→Option (GEx×Gl14Rd)} {p1:Int} {Q:GEx→Prop} (hQ:∀r x r',rec' r (IntKind.wrap .i64 (p1-1))=some (x,r')→Q x):∀(c n:Nat) (b:List Int) (p:Int) (acc:List GEx) (res:(List GEx)×(List Int)×Int),c<1000→
  aI.l0 k rec' p1 n b p acc (c:Int)=some res→(∀x∈acc,Q x)→(∀x∈res.1,Q x)∧res.1.length=acc.length+c
 |c,0,b,p,acc,res,_,h,_=>by rw[aI.l0] at h;cases h
 |0,n+1,b,p,acc,res,_,h,ha=>by
  rw[aI.l0,if_neg qom] at h
  cases h
  exact⟨ha,rfl⟩
 |c+1,n+1,b,p,acc,res,hc,h,ha=>by
  rw[aI.l0,if_pos qom] at h
  obtain⟨⟨x,r'⟩,hx,h⟩:=ag h
  obtain⟨_,h⟩:=ae h
  rw[wr _ qom,show((c+1:Nat):Int)-1=(c:Int) by omega] at h
  obtain⟨a,b⟩:=wn hQ c n _ _ _ res qom h (fun y hy=>by
   rcases List.mem_append.1 hy with q|q
   ·exact ha y q
   ·rw[List.mem_singleton.1 q];exact hQ _ _ _ hx)
  refine⟨a,?_⟩
  rw[b,qzg,qzo];omega
theorem wA {k:Nat} {rec':Gl14Rd→Int→Option (GEx×Gl14Rd)} {p1:Int} {Q:GEx→Prop} (hQ:∀r x r',rec' r (IntKind.wrap .i64 (p1-1))=some (x,r')→Q x):∀(c n:Nat) (b:List Int) (p:Int) (acc:List GEx) (res:(List GEx)×(List Int)×Int),c<1000→
  aI.l1 k rec' p1 n b p acc (c:Int)=some res→(∀x∈acc,Q x)→(∀x∈res.1,Q x)∧res.1.length=acc.length+c
 |c,0,b,p,acc,res,_,h,_=>by rw[aI.l1] at h;cases h
 |0,n+1,b,p,acc,res,_,h,ha=>by
  rw[aI.l1,if_neg qom] at h
  cases h
  exact⟨ha,rfl⟩
 |c+1,n+1,b,p,acc,res,hc,h,ha=>by
  rw[aI.l1,if_pos qom] at h
  obtain⟨⟨x,r'⟩,hx,h⟩:=ag h
  obtain⟨_,h⟩:=ae h
  rw[wr _ qom,show((c+1:Nat):Int)-1=(c:Int) by omega] at h
  obtain⟨a,b⟩:=wA hQ c n _ _ _ res qom h (fun y hy=>by
   rcases List.mem_append.1 hy with q|q
   ·exact ha y q
   ·rw[List.mem_singleton.1 q];exact hQ _ _ _ hx)
  refine⟨a,?_⟩
  rw[b,qzg,qzo];omega
def sF (d:Nat) (x:GEx):Prop:=cG x=true∧exD x≤d
theorem C1 {v:Int} (h:v∈[0,0,1,1,2,2,3,(4:Int)]):sF 1 ⟨1,v,0,[]⟩:=by
 simp only[qzp,sM,or_false] at h
 refine⟨?_,by simp[exD,kv]⟩
 rcases h with rfl|rfl|rfl|rfl|rfl|rfl|rfl|rfl <;> rfl
theorem C7 {d:Nat} {kd nn:Int} {ks:List GEx} (hk:kd∈[2,3,3,4,4,4,5,6,(7:Int)]) (hn:kd=7∧1≤nn∧nn≤20∨kd≠7∧nn=0) (hl:(ks.length:Int)=ff kd) (h:∀x∈ks,sF d x):sF (d+1) ⟨kd,0,nn,ks⟩:=by
 refine⟨?_,?_⟩
 ·rw[iR,jr]
  simp only[qzf,qzR]
  refine⟨?_,fun x hx=>(h x hx).1⟩
  unfold eH
  simp only[qzf,decide_eq_true_eq,sf]
  refine⟨⟨⟨⟨hl.symm,by omega⟩,by omega⟩,.inr (by first|trivial|rfl)⟩,?_⟩
  rcases hn with⟨rfl,a,b⟩|⟨a,b⟩
  ·rw[if_pos rfl];simp[a,b]
  ·rw[if_neg a];simp[b]
 ·rw[kG]
  have:=(lp ks d).2 fun x hx=>(h x hx).2
  show 1+kv ks≤d+1
  omega
theorem F6 {kd:Int} (hk:kd∈[2,3,3,4,4,4,5,6,(7:Int)]):∃c:Nat,ff kd=(c:Int)∧c≤3:=by
 simp only[qzp,sM,or_false] at hk
 rcases hk with rfl|rfl|rfl|rfl|rfl|rfl|rfl|rfl|rfl
 ·exact⟨2,rfl,by omega⟩
 ·exact⟨2,rfl,by omega⟩
 ·exact⟨2,rfl,by omega⟩
 ·exact⟨2,rfl,by omega⟩
 ·exact⟨2,rfl,by omega⟩
 ·exact⟨2,rfl,by omega⟩
 ·exact⟨3,rfl,by omega⟩
 ·exact⟨3,rfl,by omega⟩
 ·exact⟨1,rfl,by omega⟩
theorem xU:∀(d:Nat),1≤d→d≤4→∀(k:Nat) (r:Gl14Rd) (x:GEx) (r':Gl14Rd),aI.f k r (d:Int)=some (x,r')→sF d x
 |0,h,_,_,_,_,_,_=>by omega
 |d+1,_,hd,0,r,x,r',h=>by rw[aI.f] at h;cases h
 |d+1,_,hd,k+1,r,x,r',h=>by
  have up:∀{y:GEx},sF 1 y→sF (d+1) y:=fun q=>⟨q.1,by have:=q.2;omega⟩
  rw[aI.f] at h
  by_cases h1:1<((d+1:Nat):Int)
  rotate_left
  ·rw[if_neg h1] at h
   obtain⟨⟨v,r1⟩,hv,h⟩:=ag h
   cases h
   exact up (C1 (tU hv))
  rw[if_pos h1] at h
  have hrec:∀r x r',aI.f k r (IntKind.wrap .i64 (((d+1:Nat):Int)-1))=some (x,r')→sF d x:=fun r x r' q=>by
   rw[wr _ qom,show((d+1:Nat):Int)-1=(d:Int) by omega] at q
   exact xU d qom qom k r x r' q
  obtain⟨⟨v,r1⟩,hv,h⟩:=ag h
  by_cases h2:v=0
  ·rw[if_pos h2] at h
   obtain⟨⟨w,r2⟩,hw,h⟩:=ag h
   cases h
   exact up (C1 (tU hw))
  rw[if_neg h2] at h
  obtain⟨⟨kd,r2⟩,hkd,h⟩:=ag h
  have hk:=tU hkd
  obtain⟨c,hc,hc3⟩:=F6 hk
  dsimp only at h
  by_cases h7:kd=7
  ·rw[if_pos h7] at h
   obtain⟨⟨nn,r3⟩,hn,h⟩:=ag h
   have hn:=tU hn
   obtain⟨c',hc',h⟩:=ag h
   rw[lC,hc] at hc'
   cases hc'
   obtain⟨⟨ks,b,p⟩,hl,h⟩:=ag h
   cases h
   obtain⟨a1,a2⟩:=wn hrec c _ _ _ _ _ qom hl (fun y hy=>by simp at hy)
   exact C7 hk (.inl ⟨h7,by simp only[qzp,sM,or_false] at hn;omega⟩) (by rw[hc,a2];simp) a1
  ·rw[if_neg h7] at h
   obtain⟨c',hc',h⟩:=ag h
   rw[lC,hc] at hc'
   cases hc'
   obtain⟨⟨ks,b,p⟩,hl,h⟩:=ag h
   cases h
   obtain⟨a1,a2⟩:=wA hrec c _ _ _ _ _ qom hl (fun y hy=>by simp at hy)
   exact C7 hk (.inr ⟨h7,rfl⟩) (by rw[hc,a2];simp) a1
theorem Fq {x:GEx} (h:sF 2 x):lc x=true:=by
 have h1:=h.1
 rw[iR,jr] at h1
 simp only[qzf,qzR] at h1
 have h2:=h.2
 rw[kG] at h2
 have hk:∀y∈x.Kids,y.Kids=[]:=fun y hy=>by
  have:=(lp x.Kids 1).1 qom y hy
  rw[kG] at this
  cases hq:y.Kids with
  |nil=>rfl
  |cons z zs=>
   have hz:1≤exD z:=by rw[kG];omega
   rw[hq] at this
   have:=(lp (z::zs) 0).1 qom z (by simp)
   omega
 have hn:∀l:List GEx,(∀y∈l,y.Kids=[])→ek l=l.length:=fun l=>by
  induction l with
  |nil=>intro _;rfl
  |cons y l ih=>
   intro q
   have e1:exN y=1:=by rw[dG,q y (by simp)];rfl
   simp only[ek,e1,qzm]
   rw[ih fun z hz=>q z (by simp[hz])];omega
 have h3:=h1.1
 unfold eH at h3
 simp only[qzf,decide_eq_true_eq,sf] at h3
 have hl:x.Kids.length≤3:=by
  have:ff x.Kind≤3:=by
   unfold ff;repeat' split
   all_goals omega
  omega
 unfold lc
 simp only[qzf,decide_eq_true_eq]
 refine⟨⟨?_,?_⟩,h.1⟩
 ·rw[dG,hn _ hk];omega
 ·have:=h.2;omega
theorem EE (k:Nat) (hk:2000000000000≤k) (r:Gl14Rd) (m:Int) (hr:dx r m) (hm:m≤90000000) {x:GEx} {r':Gl14Rd} (h:ia.f k r=some (x,r')):lc x=true:=by
 unfold ia.f at h
 obtain⟨v,r1,e1,e2,e3,e4,e5⟩:=fv r 4 m hr qom qom
 have hv:=e3 qom
 rw[e1] at h
 simp only[qzb] at h
 rw[wr (1+v) qom] at h
 obtain⟨d,hd⟩:∃d:Nat,1+v=(d:Int):=⟨(1+v).toNat,by omega⟩
 have t4:(4:Nat) ^ d≤4 ^ 4:=vi qom qom
 have t10:(10:Nat) ^ (d+1)≤10 ^ 5:=vi qom qom
 have t10i:((10 ^ (d+1):Nat):Int)=(10:Int) ^ (d+1):=by push_cast;rfl
 obtain⟨y,r2,g1,g2,g3⟩:=xf d qom k qom r1 (m+1) e5 qom
 rw[hd,g1] at h
 simp only[qzb] at h
 rw[mB y qom k qom] at h
 simp only[qzb] at h
 split at h
 ·rename_i ho
  cases h
  exact ho
 ·obtain⟨⟨z,r3⟩,f1,h⟩:=ag h
  cases h
  exact Fq (xU 2 qom qom k r2 z r3 f1)
theorem zJ (k:Nat) (s:ByteArray) (hs:s.size≤1000000) (hk:1000001≤k):dP.f k s=some (jW s):=by
 have:=jv s.size (oO s) false (dP.l0 k s) (fun N=>by rw[dP.l0,if_neg qom])
  (fun N i hi=>by
   rw[dP.l0,if_pos qom,ac qom,ac qom,ac qom,ac qom,qzd,wrS i qom]
   unfold oO
   by_cases h1:(mD s i)<97
   ·rw[if_pos h1];simp[h1]
   ·rw[if_neg h1]
    by_cases h2:122<(mD s i)
    ·rw[if_pos h2];simp[h2]
    ·rw[if_neg h2];simp[h1,h2]) k qom
 unfold dP.f jW
 rw[this]
 by_cases h:∀i,i<s.size→oO s i=true
 ·rw[if_pos h]
  simp only[qzb]
  by_cases h1:0<(s.size:Int)
  ·rw[if_pos h1,qzi,qzS]
   simp only[qzf,decide_eq_true_eq,sn,decide_eq_false_iff_not]
   constructor
   ·intro q;exact⟨h,by omega,by omega⟩
   ·intro q;omega
  ·rw[if_neg h1,qzi,qzS]
   simp only[qzf,decide_eq_true_eq,qzw,false_iff]
   intro q;omega
 ·rw[if_neg h,decide_eq_false h];rfl
theorem Aa (k:Nat) (hk:1000000000000≤k) (r:GRule) (h:mT r):kH.f k r=some (rOk r):=by
 unfold kH.f rOk
 rw[zJ k r.Name h.1 qom,(sd r.Mode).2,mB r.Ex (by have:=h.2;omega) k (by have:=h.2;omega)]
 simp only[qzb]
 cases jW r.Name
 ·rfl
 simp only[if_true,qzk]
 by_cases h1:r.Pri<0
 ·rw[if_pos h1,decide_eq_false (fun q=>by omega)];rfl
 rw[if_neg h1]
 by_cases h1':9<r.Pri
 ·rw[if_pos h1',decide_eq_false (fun q=>by omega)];rfl
 rw[if_neg h1',decide_eq_true (show 0≤r.Pri∧r.Pri≤9 by omega),qzk]
 by_cases h2:0≤r.Mode∧r.Mode≤4
 rotate_left
 ·rw[if_neg (by simpa using h2),decide_eq_false h2];rfl
 rw[if_pos (by simpa using h2),decide_eq_true h2,qzk]
 cases lc r.Ex
 ·rfl
 simp only[if_true,qzk]
 by_cases h3:r.Low<0
 ·rw[if_pos h3,decide_eq_false (fun q=>by omega)];rfl
 rw[if_neg h3]
 by_cases h4:r.High<r.Low
 ·rw[if_pos h4,decide_eq_false (fun q=>by omega)];rfl
 rw[if_neg h4]
 by_cases h4':100<r.High
 ·rw[if_pos h4',decide_eq_false (fun q=>by omega)];rfl
 rw[if_neg h4',decide_eq_true (show 0≤r.Low∧r.Low≤r.High∧r.High≤100 by omega),qzk]
 by_cases h5:r.Key<0
 ·rw[if_pos h5,decide_eq_false (fun q=>by omega)];rfl
 rw[if_neg h5]
 by_cases h5':r.Key<4
 rotate_left
 ·rw[if_neg h5',decide_eq_false (fun q=>by omega)];rfl
 rw[if_pos h5',decide_eq_true (show 0≤r.Key∧r.Key≤3 by omega),qzk]
 by_cases h6:r.Add< -9
 ·rw[if_pos h6,decide_eq_false (fun q=>by omega)];rfl
 rw[if_neg h6]
 by_cases h6':9<r.Add
 ·rw[if_pos h6',decide_eq_false (fun q=>by omega)];rfl
 rw[if_neg h6',decide_eq_true (show -9≤r.Add∧r.Add≤9 by omega),qzk]
 by_cases h7:r.Raise< -1
 ·rw[if_pos h7,decide_eq_false (fun q=>by omega)]
 rw[if_neg h7,qzi,qzS]
 simp only[decide_eq_true_eq];omega
def Ef (l:List GRule) (nm:ByteArray) (j:Nat):Bool:=match l[j]? with
 |some s=> !fB s.Name nm
 |none=>false
theorem lX (k:Nat) (hk:1000000000000≤k) (l:List GRule) (hl:l.length≤1000000) (h:∀r∈l,mT r):bp.f k l=some (dO l):=by
 have dm:∀nm j (hj:j<l.length),Ef l nm j= !fB l[j].Name nm:=fun nm j hj=>by unfold Ef;rw[qzc hj]
 have inner:∀i (hi:i<l.length),bp.l3 k l (i:Int) k 0=some (if((l.take i).all fun s=> !fB s.Name l[i].Name)=true then .ok () else .error false):=fun i hi=>by
  have:=jv i (Ef l l[i].Name) false (bp.l3 k l (i:Int)) (fun N=>by rw[bp.l3,if_neg qom])
   (fun N j hj=>by
    have hlt:j<l.length:=by omega
    rw[bp.l3,if_pos qom,ac qom,qzd,qzc hlt]
    simp only[qzb]
    rw[ac qom,qzd,qzc hi]
    simp only[qzb]
    rw[dm _ j hlt]
    by_cases hb:fB l[j].Name l[i].Name=true
    ·rw[if_pos hb,hb];rfl
    ·rw[if_neg hb]
     have:fB l[j].Name l[i].Name=false:=by simpa using hb
     rw[this,wrS j qom];rfl) k qom
  rw[this]
  congr 1
  by_cases q:((l.take i).all fun s=> !fB s.Name l[i].Name)=true
  ·rw[if_pos q,if_pos]
   intro j hj
   rw[qzR] at q
   rw[dm _ j qom]
   exact q _ (List.mem_take_iff_getElem.2 ⟨j,by omega,rfl⟩)
  ·rw[if_neg q,if_neg]
   intro w
   apply q
   rw[qzR]
   intro s hs
   obtain⟨j,hj,rfl⟩:=List.mem_take_iff_getElem.1 hs
   have:=w j qom
   rwa [dm _ j qom] at this
 have:=jv l.length (iG l) false (bp.l2 k l) (fun N=>by rw[bp.l2,if_neg qom])
  (fun N i hi=>by
   rw[bp.l2,if_pos qom,ac qom,qzd,qzc hi]
   simp only[qzb]
   rw[Aa k hk _ (h _ (qze hi))]
   simp only[qzb]
   have hn:iG l i=(rOk l[i]&&(l.take i).all fun s=> !fB s.Name l[i].Name):=by unfold iG;rw[qzc hi]
   rw[hn]
   by_cases hb:rOk l[i]=true
   ·rw[if_pos hb,hb,qzk,inner i hi]
    simp only[qzb]
    cases(l.take i).all fun s=> !fB s.Name l[i].Name
    ·rfl
    ·simp only[if_true]
     rw[wrS i qom]
   ·rw[if_neg hb]
    have:rOk l[i]=false:=by simpa using hb
    rw[this];rfl) k qom
 unfold bp.f dO
 by_cases h4:4<(l.length:Int)
 ·rw[if_pos h4,decide_eq_false (show ¬l.length≤4 by omega),Bool.and_false]
 rw[if_neg h4,this,decide_eq_true (show l.length≤4 by omega),Bool.and_true]
 by_cases h:∀i,i<l.length→iG l i=true
 ·rw[if_pos h,decide_eq_true h];rfl
 ·rw[if_neg h,decide_eq_false h];rfl
theorem Al (x:GEx):(⟨x.Kind,x.Sym,x.N,x.Kids⟩:GEx)=x:=by cases x;rfl
/-- a rule that is drawn: small, its name not of two letters -/
def Eh (r:GRule):Prop:=mT r∧r.Name.size≠2
theorem Gp (k:Nat) (hk:2000000000000≤k) (r:Gl14Rd) (m:Int) (hr:dx r m) (hm:m≤50000000) (name:ByteArray):∃x r',kF.f k r name=some (x,r')∧dx r' (m+300000)∧x.Name=name∧exN x.Ex≤1000∧(jW name=true→rOk x=true):=by
 obtain⟨x,r1,e1,h1,h2⟩:=GM k hk r m hr qom
 have hxo:=EE k hk r m hr qom e1
 obtain⟨v,r2,e2, -, -, -,h3⟩:=fv r1 2 (m+200000) h1 qom qom
 have tail:∀(r:Gl14Rd) (m':Int),dx r m'→m'≤m+290000→∃(low pri mode high key add raise:Int) (a b c d e f g:Gl14Rd),aE.f r [0,0,0,1,5]=some (low,a)∧aE.f a [0,1,5,5,9]=some (pri,b)∧aU.f b 5=some (mode,c)∧aE.f c [100,100,5]=some (high,d)∧aU.f d 4=some (key,e)∧aE.f e [1,1,2,9,0,(-1)]=some (add,f)∧aE.f f [(-1),(-1),(-1),(-1),3,4,2]=some (raise,g)∧dx g (m+300000)∧
   (0≤low∧low≤high∧high≤100)∧(0≤pri∧pri≤9)∧(0≤mode∧mode≤4)∧(0≤key∧key≤3)∧(-9≤add∧add≤9)∧(-1≤raise∧raise≤4):=fun r m' hr hm'=>by
  obtain⟨low,a,a1,v1,a2⟩:=fP r [0,0,0,1,5] m' hr qom (by simp)
  obtain⟨pri,b,b1,v2,b2⟩:=fP a [0,1,5,5,9] (m'+1) a2 qom (by simp)
  obtain⟨mode,c,c1,v3,w3, -,c2⟩:=fv b 5 (m'+1+1) b2 qom qom
  obtain⟨high,d,d1,v4,d2⟩:=fP c [100,100,5] (m'+1+1+1) c2 qom (by simp)
  obtain⟨key,e,g1,v5,w5, -,g2⟩:=fv d 4 (m'+1+1+1+1) d2 qom qom
  obtain⟨add,f,f1,v6,f2⟩:=fP e [1,1,2,9,0,(-1)] (m'+1+1+1+1+1) g2 qom (by simp)
  obtain⟨raise,g,i1,v7,i2⟩:=fP f [(-1),(-1),(-1),(-1),3,4,2] (m'+1+1+1+1+1+1) f2 qom (by simp)
  have w3:=w3 qom
  have w5:=w5 qom
  simp only[qzp,sM,or_false] at v1 v2 v4 v6 v7
  exact⟨low,pri,mode,high,key,add,raise,a,b,c,d,e,f,g,a1,b1,c1,d1,g1,f1,i1,i2.mono qom,by omega,by omega,by omega,by omega,by omega,by omega⟩
 unfold kF.f
 rw[e1]
 simp only[qzb]
 rw[e2]
 simp only[qzb]
 by_cases hv:v=0
 ·rw[if_pos hv]
  obtain⟨y,r3,e3,q1,q2⟩:=xf 2 qom k qom r2 (m+200000+1) h3 qom
  have hyo:=Fq (xU 2 qom qom k r2 y r3 e3)
  rw[show((2:Nat):Int)=2 from rfl] at e3
  rw[e3]
  obtain⟨low,pri,mode,high,key,add,raise,a,b,c,d,e,f,g,a1,b1,c1,d1,g1,f1,i1,i2,w1,w2,w3,w4,w5,w6⟩:=tail r3 _ q1 qom
  simp only[qzb,a1,b1,c1,d1,g1,f1,i1]
  exact⟨_,_,rfl,i2,rfl,by show exN (⟨y.Kind,y.Sym,y.N,y.Kids⟩:GEx)≤1000;rw[Al];omega,fun hn=>(xx _).2 ⟨hn,w2,w3,by rw[Al];exact hyo,w1,w4,w5,w6⟩⟩
 ·rw[if_neg hv]
  obtain⟨low,pri,mode,high,key,add,raise,a,b,c,d,e,f,g,a1,b1,c1,d1,g1,f1,i1,i2,w1,w2,w3,w4,w5,w6⟩:=tail r2 _ h3 qom
  simp only[qzb,a1,b1,c1,d1,g1,f1,i1]
  exact⟨_,_,rfl,i2,rfl,by show exN (⟨x.Kind,x.Sym,x.N,x.Kids⟩:GEx)≤1000;rw[Al];omega,fun hn=>(xx _).2 ⟨hn,w2,w3,by rw[Al];exact hxo,w1,w4,w5,w6⟩⟩
def nms:List ByteArray:=[(⟨#[111,110,101]⟩:ByteArray),(⟨#[116,119,111]⟩:ByteArray),(⟨#[116,104,114,101,101]⟩:ByteArray),(⟨#[102,111,117,114]⟩:ByteArray)]
def As (l:List GRule):Prop:=∀(j:Nat) (r:GRule),l[j]? =some r→rOk r=true∧nms[j]? =some r.Name
theorem As.ok {l:List GRule} (h:As l) (hl:l.length≤4):dO l=true:=by
 unfold dO
 rw[qzf]
 refine⟨decide_eq_true fun i hi=>?_,decide_eq_true hl⟩
 unfold iG
 rw[qzc hi]
 obtain⟨a,b⟩:=h i _ (qzc hi)
 simp only[a,qzk,qzR]
 intro s hs
 obtain⟨j,hj,e⟩:=List.mem_take_iff_getElem.1 hs
 obtain⟨_,c⟩:=h j s (by rw[qzc qom,e])
 have hi4:i=0∨i=1∨i=2∨i=3:=by omega
 have hj4:j=0∨j=1∨j=2:=by omega
 generalize (l[i]).Name=x at b⊢
 generalize s.Name=y at c⊢
 rcases hi4 with rfl|rfl|rfl|rfl <;> rcases hj4 with rfl|rfl|rfl <;> first|omega|(simp only[nms,qzs,yy,qzi] at b c;subst b;subst c;unfold fB;rw[ByteArray.toList_eq,ByteArray.toList_eq];rfl)
theorem BO (k:Nat) (hk:2000000000000≤k):∀(c n:Nat) (b:List Int) (p m:Int) (acc:List GRule),c<n→dx ⟨b,p⟩ m→m+300000 * c≤50000000→acc.length+c≤4→(∀r∈acc,Eh r)→As acc→
  ∃l b' p',df.l0 k n b p acc (c:Int)=some (l,b',p')∧dx ⟨b',p'⟩ (m+300000 * c)∧l.length≤4∧(∀r∈l,Eh r)∧As l:=by
 intro c
 induction c with
 |zero=>
  intro n b p m acc hn hr hm ha hd hN
  obtain⟨n,rfl⟩:=qsc n
  rw[df.l0,if_neg qom]
  exact⟨_,_,_,rfl,by simpa using hr,by omega,hd,hN⟩
 |succ c ih=>
  intro n b p m acc hn hr hm ha hd hN
  obtain⟨n,rfl⟩:=qsc n
  have hname:∃nm:ByteArray,nms[acc.length]? =some nm∧nm.size≤5∧nm.size≠2∧jW nm=true:=by
   have h4:acc.length=0∨acc.length=1∨acc.length=2∨acc.length=3:=by omega
   rcases h4 with h|h|h|h <;> rw[h]
   ·exact⟨_,rfl,by decide,by decide,by decide⟩
   ·exact⟨_,rfl,by decide,by decide,by decide⟩
   ·exact⟨_,rfl,by decide,by decide,by decide⟩
   ·exact⟨_,rfl,by decide,by decide,by decide⟩
  obtain⟨nm,n1,n2,n3,n4⟩:=hname
  obtain⟨x,r',e1,e2,e3,e4,e5⟩:=Gp k hk ⟨b,p⟩ m hr qom nm
  have n1':=n1
  unfold nms at n1'
  rw[df.l0,if_pos qom,ac qom,ac qom,qzd,n1']
  simp only[qzb]
  rw[e1]
  simp only[qzb]
  rw[ac qom,wrP c qom]
  obtain⟨l,b',p',q1,q2,q3,q4,q5⟩:=ih n r'.b r'.p (m+300000) (acc++[x]) qom e2 qom (by rw[qzg,qzo];omega) (fun r hr'=>by
   rcases List.mem_append.1 hr' with h|h
   ·exact hd r h
   ·rw[List.mem_singleton.1 h]
    exact⟨⟨by rw[e3];omega,by omega⟩,by rw[e3];exact n3⟩) (fun j r hj=>by
   by_cases h:j<acc.length
   ·rw[qzG h] at hj;exact hN j r hj
   ·rw[qzt qom] at hj
    have:j-acc.length=0:=by
     have:=(List.getElem?_eq_some_iff.1 hj).1
     simp only[qzo] at this;omega
    rw[this] at hj
    cases hj
    rw[show j=acc.length by omega,e3]
    exact⟨e5 n4,n1⟩)
  exact⟨l,b',p',q1,q2.mono qom,q3,q4,q5⟩
theorem EV (k:Nat) (hk:2000000000000≤k) (r:Gl14Rd) (m:Int) (hr:dx r m) (hm:m≤40000000):∃l r',df.f k r=some (l,r')∧dx r' (m+2000000)∧l.length≤4∧(∀r∈l,Eh r)∧dO l=true:=by
 obtain⟨v,r1,e1,h1,h2, -,h4⟩:=fv r 5 m hr qom qom
 have h2:=h2 qom
 obtain⟨c,rfl⟩:∃c:Nat,v=c:=⟨v.toNat,by omega⟩
 obtain⟨l,b',p',q1,q2,q3,q4,q5⟩:=BO k hk c k r1.b r1.p (m+1) [] qom h4 qom (by simp;omega) (fun r h=>by simp at h) (fun j r h=>by simp at h)
 unfold df.f
 rw[e1]
 simp only[qzb]
 rw[q1]
 exact⟨l,⟨b',p'⟩,rfl,q2.mono qom,q3,q4,q5.ok q3⟩



/- found at the time of the one that came -/

mutual
def IE (mode:Int) (l:List GEv) (T:Int):GEx→List GOcc
 |⟨kd,sy,n,ks⟩=>if kd=1 then cutM T (symFrom sy 0 l) else joinV mode T kd n (Hp mode l T ks)
def Hp (mode:Int) (l:List GEv) (T:Int):List GEx→List (List GOcc)
 |[]=>[]
 |x::xs=>IE mode l T x::Hp mode l T xs
end
mutual
def pd:GEx→List GEx
 |⟨kd,sy,n,ks⟩=>⟨kd,sy,n,ks⟩::mj ks
def mj:List GEx→List GEx
 |[]=>[]
 |x::xs=>pd x++mj xs
end
theorem nH {y:GEx}:∀{xs:List GEx},y∈mj xs↔∃x∈xs,y∈pd x
 |[]=>by simp[mj]
 |x::xs=>by
  simp only[mj,List.mem_append,nH (xs:=xs),qzp]
  constructor
  ·rintro(h|⟨z,hz,h⟩)
   ·exact⟨x,.inl rfl,h⟩
   ·exact⟨z,.inr hz,h⟩
  ·rintro⟨z,rfl|hz,h⟩
   ·exact .inl h
   ·exact .inr ⟨z,hz,h⟩
theorem rB {x y:GEx}:y∈pd x↔y=x∨∃z∈x.Kids,y∈pd z:=by
 obtain⟨a,b,c,d⟩:=x
 simp only[pd,qzp,nH]
theorem ES:∀x:GEx,cG x=true→∀y∈pd x,cG y=true:=by
 refine jC fun x ih hf y hy=>?_
 rcases rB.1 hy with rfl|⟨k,hk,h⟩
 ·exact hf
 ·exact ih k hk ((cT hf).2 k hk) y h
/-- a list that has grown at a time -/
structure Grown (T t:Int) (a F:List GOcc):Prop where
 low:∀o∈a,o.To≤T
 at':∀o∈F,o.To=t
structure NodeH (mode:Int) (l:List GEv) (T:Int) (n:GNode) (e:GEx):Prop where
 many:n.Many=((IE mode l T e).length:Int)
 p3:n.Kind=3→(n.Pair.Left,n.Pair.Right)=stP (Ie mode) (kidV mode l T e 0) (kidV mode l T e 1)
 p4:n.Kind=4→(n.Pair.Left,n.Pair.Right)=stP (Ih mode) (kidV mode l T e 0) (kidV mode l T e 1)
 p5:n.Kind=5→(n.Span.Left,n.Span.Mid)=stS (Jb mode) (kidV mode l T e 0) (kidV mode l T e 1) (kidV mode l T e 2)
 p6:n.Kind=6→(n.Span.Left,n.Span.Mid)=stS (Hm mode) (kidV mode l T e 0) (kidV mode l T e 1) (kidV mode l T e 2)
 p7:n.Kind=7→n.Due=waitM n.N T (kidV mode l T e 0)
/-- the kids of a part, as they grow -/
structure KidG (mode:Int) (l:List GEv) (T t:Int) (e:GEx) (found:List (List GOcc)) (n:GNode) (j:Nat):Prop where
 eq:kidV mode l t e j=kidV mode l T e j++ap found n j
 gr:Grown T t (kidV mode l T e j) (ap found n j)
 aa:Asc (kidV mode l T e j)
 fa:Asc (ap found n j)
theorem FX:∀x:GEx,∀y∈pd x,exN y≤exN x:=by
 refine jC fun x ih y hy=>?_
 rcases rB.1 hy with rfl|⟨k,hk,h⟩
 ·exact qzh _
 ·have:=ih k hk y h
  have:=eQ hk
  rw[dG x];omega
/-- a part that is there already is the same expression -/
theorem Bv {x:GEx} {E:List GEx} {N:List GNode} {ks:List Int} (h:Rep E N) (hl:ks.length=x.Kids.length) (hk:∀(j:Nat) (y:GEx),x.Kids[j]? =some y→∃q:Nat,ks[j]? =some (q:Int)∧E[q]? =some y) {i:Nat} (hi:i<N.length) (hkey:pp N[i] (kI x.Kind x.Sym x.N ks)=true):E[i]? =some x:=by
 obtain⟨k1,k2,k3,k4⟩:=(rX _ _).1 hkey
 obtain⟨e,he,_,hr⟩:=h.2 i _ (qzc hi)
 rw[he]
 congr 1
 refine Bq (hr.1.symm.trans k1) (hr.2.1.symm.trans k2) (hr.2.2.1.symm.trans k3) (List.ext_getElem? fun j=>?_)
 have hlen:e.Kids.length=x.Kids.length:=by rw[←hr.2.2.2.1,k4];exact hl
 rcases qzK j e.Kids.length with hj|hj
 ·obtain⟨q,_,q2,q3⟩:=hr.2.2.2.2 j hj
  obtain⟨q',p1,p2⟩:=hk j x.Kids[j] (qzc qom)
  rw[k4] at q2
  have hq:some (q':Int)=some (q:Int):=p1.symm.trans q2
  have:q'=q:=Int.ofNat.inj (pH hq)
  subst this
  rw[←q3,p2,qzc qom]
 ·rw[qzJ hj,qzJ qom]
theorem G0 {x:GEx} (hx:gO x) {E:List GEx} {N:List GNode} {ks:List Int} (h:Rep E N) (hl:ks.length=x.Kids.length) (hk:∀(j:Nat) (y:GEx),x.Kids[j]? =some y→∃q:Nat,ks[j]? =some (q:Int)∧E[q]? =some y):Rep (E++[x]) (N++[kI x.Kind x.Sym x.N ks]):=by
 refine⟨by have:=h.1;simp only[qzg,qzo] at this⊢;omega,fun i n hn=>?_⟩
 rcases qzK i N.length with hlt|hge
 ·rw[qzG hlt] at hn
  obtain⟨e,he,hf,hr⟩:=h.2 i n hn
  refine⟨e,tQ he,hf,hr.1,hr.2.1,hr.2.2.1,hr.2.2.2.1,fun j hj=>?_⟩
  obtain⟨q,q1,q2,q3⟩:=hr.2.2.2.2 j hj
  refine⟨q,q1,q2,?_⟩
  rw[qzG (by rw[h.1];omega)];exact q3
 ·rw[qzt hge] at hn
  have:i=N.length:=by
   have:=(List.getElem?_eq_some_iff.1 hn).1
   simp only[qzo] at this;omega
  subst this
  rw[qzW,qzs] at hn
  cases hn
  refine⟨x,?_,hx,rfl,rfl,rfl,hl,fun j hj=>?_⟩
  ·rw[←h.1,qzt (qzh _),qzW];rfl
  ·obtain⟨q,p1,p2⟩:=hk j x.Kids[j] (qzc hj)
   have hq:q<E.length:=(List.getElem?_eq_some_iff.1 p2).1
   refine⟨q,by rw[←h.1];exact hq,p1,?_⟩
   rw[qzG hq,p2,qzc hj]

def fJ (kd sy:Int):List UInt8:=if kd=1 then[UInt8.ofNat (97+sy).toNat] else if kd=2 then[111,114] else if kd=3 then[97,110,100] else if kd=4 then[115,101,113] else if kd=5 then[110,111,116] else if kd=6 then[101,97,99,104] else[112,108,117,115]
def jZ (n:Int):List UInt8:=if n<10 then[UInt8.ofNat (48+n).toNat] else[UInt8.ofNat (48+n / 10).toNat,UInt8.ofNat (48+n % 10).toNat]
mutual
def fH:GEx→List UInt8
 |⟨kd,sy,n,ks⟩=>fJ kd sy++((if kd=7 then 32::jZ n else[])++cE ks)
def cE:List GEx→List UInt8
 |[]=>[]
 |x::xs=>32::(fH x++cE xs)
end
theorem jS (x:GEx):fH x=fJ x.Kind x.Sym++((if x.Kind=7 then 32::jZ x.N else[])++cE x.Kids):=by
 obtain⟨a,b,c,d⟩:=x
 simp only[fH]
theorem En (s:Int) (h:1≤s∧s≤7):∃m:Fin 8,s=(m.val:Int)∧1≤m.val:=⟨⟨s.toNat,by omega⟩,by show s=(s.toNat:Int);omega,by show 1≤s.toNat;omega⟩
theorem Ax (s:Int) (h:0≤s∧s<5):∃m:Fin 5,s=(m.val:Int):=⟨⟨s.toNat,by omega⟩,by show s=(s.toNat:Int);omega⟩
theorem AW {kd sy:Int} (h:1≤kd∧kd≤7) (hs:0≤sy∧sy<5):∀b∈fJ kd sy,b≠32:=by
 obtain⟨m,rfl,_⟩:=En kd h
 obtain⟨s,rfl⟩:=Ax sy hs
 have key:∀(a:Fin 8) (b:Fin 5),∀c∈fJ (a.val:Int) (b.val:Int),c≠32:=by decide +kernel
 exact key m s
theorem GC {kd sy kd' sy':Int} (h:1≤kd∧kd≤7) (hs:0≤sy∧sy<5) (h':1≤kd'∧kd'≤7) (hs':0≤sy'∧sy'<5) (e:fJ kd sy=fJ kd' sy'):kd=kd'∧(kd=1→sy=sy'):=by
 obtain⟨m,rfl,g⟩:=En kd h
 obtain⟨s,rfl⟩:=Ax sy hs
 obtain⟨m',rfl,g'⟩:=En kd' h'
 obtain⟨s',rfl⟩:=Ax sy' hs'
 have key:∀(a b:Fin 8) (s t:Fin 5),((decide (1≤a.val)&&(decide (1≤b.val)&&(fJ (a.val:Int) (s.val:Int)==fJ (b.val:Int) (t.val:Int))))&& !(decide (a=b)&&(!decide (a.val=1)||decide (s=t))))=false:=by decide +kernel
 have:=key m m' s s'
 rw[decide_eq_true g,decide_eq_true g',e,beq_self_eq_true] at this
 simp only[qzk,xG,qzf,decide_eq_true_eq,sf,sn,decide_eq_false_iff_not] at this
 obtain⟨k1,k2⟩:=this
 refine⟨by rw[k1],fun q=>?_⟩
 rcases k2 with k2|k2
 ·omega
 ·rw[k2]
theorem Ba (n:Int) (h:1≤n∧n≤20):∃m:Fin 21,n=(m.val:Int):=⟨⟨n.toNat,by omega⟩,by show n=(n.toNat:Int);omega⟩
theorem HB {n n':Int} (h:1≤n∧n≤20) (h':1≤n'∧n'≤20) (e:jZ n=jZ n'):n=n':=by
 obtain⟨m,rfl⟩:=Ba n h
 obtain⟨m',rfl⟩:=Ba n' h'
 have key:∀a b:Fin 21,jZ (a.val:Int)=jZ (b.val:Int)→a=b:=by decide +kernel
 rw[key m m' e]
theorem yZ {n:Int} (h:1≤n∧n≤20):∀b∈jZ n,b≠32:=by
 obtain⟨m,rfl⟩:=Ba n h
 have key:∀a:Fin 21,∀b∈jZ (a.val:Int),b≠32:=by decide +kernel
 exact key m
/-- what follows a word: nothing, or a blank -/
def kn (r:List UInt8):Prop:=r=[]∨∃t,r=32::t
theorem wU {w w' r r':List UInt8} (hw:∀b∈w,b≠32) (hw':∀b∈w',b≠32) (hr:kn r) (hr':kn r') (e:w++r=w'++r'):w=w'∧r=r':=by
 have tk:∀{v s:List UInt8},(∀b∈v,b≠32)→kn s→(v++s).takeWhile (·!=32)=v:=fun{v s} hv hs=>by
  induction v with
  |nil=>rcases hs with rfl|⟨t,rfl⟩ <;> rfl
  |cons b v ih=>
   rw[qzH,List.takeWhile_cons_of_pos (by simpa using hv b (by simp)),ih (fun c hc=>hv c (by simp[hc]))]
 have h1:=tk hw hr
 rw[e,tk hw' hr'] at h1
 subst h1
 exact⟨rfl,List.append_cancel_left e⟩
theorem lM {xs:List GEx} {r:List UInt8} (h:kn r):kn (cE xs++r):=by
 cases xs with
 |nil=>simpa [cE] using h
 |cons x xs=>exact .inr ⟨fH x++cE xs++r,by simp only[cE,qzH]⟩
theorem A5:∀{xs ys:List GEx} {r r':List UInt8},xs.length=ys.length→(∀x∈xs,∀y∈ys,∀r r',kn r→kn r'→fH x++r=fH y++r'→x=y∧r=r')→kn r→kn r'→cE xs++r=cE ys++r'→xs=ys∧r=r'
 |[],[],r,r',_,_,_,_,e=>⟨rfl,by simpa [cE] using e⟩
 |[],_::_,_,_,h,_,_,_,_=>by simp at h
 |_::_,[],_,_,h,_,_,_,_=>by simp at h
 |x::xs,y::ys,r,r',hl,H,hr,hr',e=>by
  simp only[cE,qzH,qzl,List.cons.injEq,true_and] at e
  obtain⟨e1,e2⟩:=H x (by simp) y (by simp) _ _ (lM hr) (lM hr') e
  obtain⟨e3,e4⟩:=A5 (by simpa using hl) (fun a ha b hb=>H a (by simp[ha]) b (by simp[hb])) hr hr' e2
  exact⟨by rw[e1,e3],e4⟩
theorem od {e:GEx} (h:eH e=true):(1≤e.Kind∧e.Kind≤7)∧(0≤e.Sym∧e.Sym<5)∧(e.Kind≠1→e.Sym=0)∧(e.Kind≠7→e.N=0)∧(e.Kind=7→1≤e.N∧e.N≤20)∧(e.Kids.length:Int)=ff e.Kind:=by
 have rng:1≤e.Kind∧e.Kind≤7:=by
  rcases gZ h with q|q|q|q|q|q|q
  all_goals omega
 unfold eH at h
 simp only[qzf,decide_eq_true_eq,sf] at h
 obtain⟨⟨⟨⟨hk1,hs1⟩,hs2⟩,hs3⟩,hN⟩:=h
 refine⟨rng,by omega,fun q=>by omega,fun q=>?_,fun q=>?_,by omega⟩
 ·rw[if_neg q] at hN;simpa using hN
 ·rw[if_pos q] at hN;simp only[qzf,decide_eq_true_eq] at hN;omega
theorem Gv:∀x:GEx,cG x=true→∀y:GEx,cG y=true→∀r r',kn r→kn r'→fH x++r=fH y++r'→x=y∧r=r':=by
 refine jC fun x ih hx y hy r r' hr hr' e=>?_
 obtain⟨x1,x2,x3,x4,x5,x6⟩:=od (cT hx).1
 obtain⟨y1,y2,y3,y4,y5,y6⟩:=od (cT hy).1
 rw[jS x,jS y,qzl (fJ x.Kind x.Sym),qzl (fJ y.Kind y.Sym)] at e
 have st:∀(z:GEx) (s:List UInt8),kn s→kn (((if z.Kind=7 then 32::jZ z.N else[])++cE z.Kids)++s):=fun z s hs=>by
  split
  ·exact .inr ⟨_,rfl⟩
  ·rw[qzP];exact lM hs
 obtain⟨e1,e2⟩:=wU (AW x1 x2) (AW y1 y2) (st x r hr) (st y r' hr') e
 obtain⟨k1,k2⟩:=GC x1 x2 y1 y2 e1
 have hsym:x.Sym=y.Sym:=by
  by_cases h1:x.Kind=1
  ·exact k2 h1
  ·rw[x3 h1,y3 qom]
 have hlen:x.Kids.length=y.Kids.length:=by
  have:ff x.Kind=ff y.Kind:=by rw[k1]
  omega
 have fin:cE x.Kids++r=cE y.Kids++r'→x.N=y.N→x=y∧r=r':=fun q hn=>by
  obtain⟨f1,f2⟩:=A5 hlen (fun a ha b hb=>ih a ha ((cT hx).2 a ha) b ((cT hy).2 b hb)) hr hr' q
  exact⟨Bq k1 hsym hn f1,f2⟩
 by_cases h7:x.Kind=7
 ·rw[if_pos h7,if_pos qom] at e2
  simp only[qzH,qzl,List.cons.injEq,true_and] at e2
  obtain⟨d1,d2⟩:=wU (yZ (x5 h7)) (yZ (y5 qom)) (lM hr) (lM hr') e2
  exact fin d2 (HB (x5 h7) (y5 qom) d1)
 ·rw[if_neg h7,if_neg qom,qzP,qzP] at e2
  exact fin e2 (by rw[x4 h7,y4 qom])
theorem FN {x y:GEx} (hx:cG x=true) (hy:cG y=true):fH x=fH y↔x=y:=by
 constructor
 ·intro e
  exact(Gv x hx y hy [] [] (.inl rfl) (.inl rfl) (by rw[e])).1
 ·rintro rfl;rfl
def bl (s:ByteArray):List UInt8:=s.data.toList
theorem hJ (s:ByteArray):s.size=(bl s).length:=by unfold bl;rw[Array.length_toList];rfl
theorem j5 (a b:ByteArray):bl (a++b)=bl a++bl b:=by unfold bl;rw[ByteArray.data_append,Array.toList_append]
theorem Fe (a b:ByteArray):fB a b=(bl a==bl b):=by unfold fB bl;rw[ByteArray.toList_eq,ByteArray.toList_eq]
theorem wr8 (x:Int) (h:0≤x∧x<256):IntKind.wrap .u8 x=x:=by
 show x % 256=x
 exact Int.emod_eq_of_lt h.1 h.2
theorem xA (d:Int) (h:0≤d∧d≤9):bl (Vm.byte1 (IntKind.wrap .u8 (IntKind.wrap .i64 (48+d))))=[UInt8.ofNat (48+d).toNat]:=by
 rw[wr _ qom,wr8 _ qom]
 rfl
theorem dec_k (k:Nat) (hk:100≤k) (n:Int) (h:1≤n∧n≤20):∃s,cQ.f k n=some s∧bl s=jZ n:=by
 obtain⟨k,rfl⟩:∃m,k=m+3:=⟨k-3,by omega⟩
 rw[cQ.f,if_neg qom,if_neg qom]
 unfold jZ
 by_cases h9:9<n
 ·rw[cQ.l0,if_pos h9,te n 10 qom qom]
  obtain⟨q1,q2,q3⟩:=vS n 10 qom qom
  have b1:=xA (n % 10) qom
  rw[ac (by rw[hJ,b1];show 1+0≤9223372036854775807;omega),q1,cQ.l0,if_neg qom]
  simp only[qzb]
  have b2:=xA (n / 10) qom
  rw[ac (by rw[hJ,b2,hJ,j5,b1];show 1+1≤9223372036854775807;omega),if_neg qom]
  refine⟨_,rfl,?_⟩
  rw[j5,j5,b1,b2];rfl
 ·rw[cQ.l0,if_neg h9]
  simp only[qzb]
  have b1:=xA n qom
  rw[ac (by rw[hJ,b1];show 1+0≤9223372036854775807;omega),if_pos qom]
  refine⟨_,rfl,?_⟩
  rw[j5,b1];rfl
theorem Gu (s:Int) (h:0≤s∧s<5):∃t,jj.f s=some t∧bl t=fJ 1 s:=by
 obtain⟨m,rfl⟩:=Ax s h
 unfold jj.f
 rw[if_neg qom,if_pos qom,wr _ qom,ac qom,ac qom,ac (by show(m.val:Int)+1≤((5:Nat):Int);omega)]
 refine⟨_,rfl,?_⟩
 have key:∀a:Fin 5,bl ((⟨#[97,98,99,100,101]⟩:ByteArray).extract ((a.val:Int)).toNat ((a.val:Int)+1).toNat)=fJ 1 (a.val:Int):=by decide +kernel
 exact key m
theorem HD (kd:Int) (h:2≤kd∧kd≤7):∃ws t,lL.f=some ws∧kd<(ws.length:Nat)∧ws[kd.toNat]? =some t∧bl t=fJ kd 0:=by
 have h7:kd=2∨kd=3∨kd=4∨kd=5∨kd=6∨kd=7:=by omega
 rcases h7 with rfl|rfl|rfl|rfl|rfl|rfl
 all_goals exact⟨_,_,rfl,by decide,rfl,rfl⟩
theorem BY {kd sy:Int} (h:1≤kd∧kd≤7) (hs:0≤sy∧sy<5):(fJ kd sy).length≤4:=by
 obtain⟨m,rfl,_⟩:=En kd h
 obtain⟨s,rfl⟩:=Ax sy hs
 have key:∀(a:Fin 8) (b:Fin 5),(fJ (a.val:Int) (b.val:Int)).length≤4:=by decide +kernel
 exact key m s
theorem Db {n:Int} (h:1≤n∧n≤20):(jZ n).length≤2:=by unfold jZ;split <;> simp
theorem ve:∀(xs ys:List GEx),cE (xs++ys)=cE xs++cE ys
 |[],ys=>by simp[cE]
 |x::xs,ys=>by simp only[qzH,cE,ve xs ys,qzl]
theorem Gg {xs:List GEx} (h:∀x∈xs,(fH x).length≤16 * exN x):(cE xs).length≤xs.length+16 * ek xs:=by
 induction xs with
 |nil=>simp[cE]
 |cons x xs ih=>
  have h1:=h x (by simp)
  have h2:=ih fun y hy=>h y (by simp[hy])
  simp only[cE,qzm,qzg,dz]
  omega
theorem GN:∀x:GEx,cG x=true→(fH x).length≤16 * exN x:=by
 refine jC fun x ih hx=>?_
 obtain⟨x1,x2,x3,x4,x5,x6⟩:=od (cT hx).1
 have hf:=Gg (xs:=x.Kids) fun y hy=>ih y hy ((cT hx).2 y hy)
 have hw:=BY x1 x2
 have k3:x.Kids.length≤3:=by
  have:ff x.Kind≤3:=by
   unfold ff;repeat' split
   all_goals omega
  omega
 rw[jS,qzg,qzg,dG x]
 split
 ·rename_i h7
  have:=Db (x5 h7)
  rw[qzm];omega
 ·rw[pD];omega
theorem yM (xs:List GEx) (w:List UInt8) (hl:xs.length≤3) (L:Nat→ByteArray→Int→Option ByteArray) (R:GEx→Option ByteArray) (hend:∀N s,L (N+1) s (xs.length:Int)=some s)
  (hstep:∀N s i (h:i<xs.length) t,R xs[i]=some t→s.size+1+t.size≤1000000000→L (N+1) s (i:Int)=L N ((s++(⟨#[32]⟩:ByteArray))++t) ((i+1:Nat):Int))
  (hR:∀x∈xs,∃t,R x=some t∧bl t=fH x) (hs:w.length+(cE xs).length≤1000000):∀(d i N:Nat) (s:ByteArray),i+d=xs.length→d<N→bl s=w++cE (xs.take i)→∃t,L N s (i:Int)=some t∧bl t=w++cE xs:=by
 intro d
 induction d with
 |zero=>
  intro i N s hi hN hb
  obtain⟨N,rfl⟩:=qsc N
  rw[show i=xs.length by omega,List.take_length] at hb
  rw[show i=xs.length by omega,hend]
  exact⟨s,rfl,hb⟩
 |succ d ih=>
  intro i N s hi hN hb
  obtain⟨N,rfl⟩:=qsc N
  have hlt:i<xs.length:=by omega
  obtain⟨t,t1,t2⟩:=hR _ (qze hlt)
  have hsplit:cE xs=cE (xs.take i)++(32::(fH xs[i]++cE (xs.drop (i+1)))):=by
   conv=>lhs;rw[←BD i xs,qzj hlt]
   rw[ve];simp only[cE]
  have hlen:=congrArg List.length hsplit
  simp only[qzg,qzm] at hlen
  have hsz:s.size=w.length+(cE (xs.take i)).length:=by rw[hJ,hb,qzg]
  have htz:t.size=(fH xs[i]).length:=by rw[hJ,t2]
  rw[hstep N s i hlt t t1 qom]
  refine ih (i+1) N _ qom qom ?_
  rw[j5,j5,hb,t2,xM,qzc hlt,ve]
  show w++cE (xs.take i)++[32]++fH xs[i]=w++(cE (xs.take i)++cE [xs[i]])
  simp[cE]
theorem IH:∀x:GEx,cG x=true→exN x≤1000→∀k:Nat,1000+exN x≤k→∃s,aR.f k x=some s∧bl s=fH x:=by
 refine jC fun x ih hx hn k hk=>?_
 obtain⟨x1,x2,x3,x4,x5,x6⟩:=od (cT hx).1
 have htl:=GN x hx
 obtain⟨k,rfl⟩:=qsc k
 rw[aR.f]
 have hR:∀y∈x.Kids,∃t,aR.f k y=some t∧bl t=fH y:=fun y hy=>by
  have:=eQ hy
  rw[dG] at hn hk
  exact ih y hy ((cT hx).2 y hy) qom k qom
 have k3:x.Kids.length≤3:=by
  have:ff x.Kind≤3:=by
   unfold ff;repeat' split
   all_goals omega
  omega
 by_cases h1:x.Kind=1
 ·rw[if_pos h1]
  obtain⟨t,t1,t2⟩:=Gu x.Sym x2
  rw[t1]
  refine⟨t,rfl,?_⟩
  have hk0:x.Kids=[]:=List.length_eq_zero_iff.1 (by
   have:ff x.Kind=0:=by rw[h1];rfl
   omega)
  rw[t2,jS,h1,hk0,if_neg qom]
  simp[cE]
 rw[if_neg h1]
 obtain⟨ws,wd,w1,w2,w3,w4⟩:=HD x.Kind qom
 rw[w1]
 simp only[qzb]
 rw[ac qom,ac w2,w3]
 simp only[qzb]
 have hsy:=x3 h1
 have hwl:=BY x1 x2
 have hws:wd.size=(fJ x.Kind x.Sym).length:=by rw[hJ,w4,hsy]
 by_cases h7:x.Kind=7
 ·rw[if_pos h7]
  obtain⟨dd,d1,d2⟩:=dec_k k qom x.N (x5 h7)
  have hdl:=Db (x5 h7)
  have hds:dd.size=(jZ x.N).length:=by rw[hJ,d2]
  rw[ac (by show wd.size+1≤_;omega),d1]
  simp only[qzb]
  have hsz:(wd++(⟨#[32]⟩:ByteArray)).size=wd.size+1:=by rw[hJ,j5,qzg,←hJ];rfl
  rw[ac (by rw[hsz];omega)]
  have hw0:bl ((wd++(⟨#[32]⟩:ByteArray))++dd)=fJ x.Kind x.Sym++(32::jZ x.N):=by rw[j5,j5,w4,d2,hsy,qzl];rfl
  have hfl:(fJ x.Kind x.Sym++(32::jZ x.N)).length+(cE x.Kids).length≤1000000:=by
   rw[jS,if_pos h7] at htl
   simp only[qzg,qzm] at htl⊢
   omega
  obtain⟨t,t1,t2⟩:=yM x.Kids (fJ x.Kind x.Sym++(32::jZ x.N)) k3 (aR.l0 k (aR.f k) x) (aR.f k) (fun N s=>by rw[aR.l0,if_neg qom])
   (fun N s i h t ht hs=>by
    have e1:(s++(⟨#[32]⟩:ByteArray)).size=s.size+1:=by rw[hJ,j5,qzg,←hJ];rfl
    rw[aR.l0,if_pos qom,ac (by show s.size+1≤_;omega),ac qom,qzd,qzc h]
    simp only[qzb]
    rw[ht]
    simp only[qzb]
    rw[ac (by rw[e1];omega),wrS i qom]) hR hfl x.Kids.length 0 k ((wd++(⟨#[32]⟩:ByteArray))++dd) qom qom (by rw[hw0];simp[cE])
  rw[show((0:Nat):Int)=0 from rfl] at t1
  rw[t1]
  refine⟨t,rfl,?_⟩
  rw[t2,jS,if_pos h7,qzl]
 ·rw[if_neg h7]
  have hfl:(fJ x.Kind x.Sym).length+(cE x.Kids).length≤1000000:=by
   rw[jS,if_neg h7] at htl
   simp only[qzg,pD] at htl⊢
   omega
  obtain⟨t,t1,t2⟩:=yM x.Kids (fJ x.Kind x.Sym) k3 (aR.l1 k (aR.f k) x) (aR.f k) (fun N s=>by rw[aR.l1,if_neg qom])
   (fun N s i h t ht hs=>by
    have e1:(s++(⟨#[32]⟩:ByteArray)).size=s.size+1:=by rw[hJ,j5,qzg,←hJ];rfl
    rw[aR.l1,if_pos qom,ac (by show s.size+1≤_;omega),ac qom,qzd,qzc h]
    simp only[qzb]
    rw[ht]
    simp only[qzb]
    rw[ac (by rw[e1];omega),wrS i qom]) hR hfl x.Kids.length 0 k wd qom qom (by rw[w4,hsy];simp[cE])
  rw[show((0:Nat):Int)=0 from rfl] at t1
  rw[t1]
  refine⟨t,rfl,?_⟩
  rw[t2,jS,if_neg h7,qzP]
/-- texts beside expressions -/
def Par (es:List GEx) (T:List ByteArray):Prop:=T.length=es.length∧∀(i:Nat) (e:GEx),es[i]? =some e→∃t,T[i]? =some t∧bl t=fH e
theorem HM (k:Nat) (T:List ByteArray) (s:ByteArray) (hl:T.length≤1000):∀(d i N:Nat),i+d=T.length→d<N→(∀j,j<i→∀t,T[j]? =some t→fB t s=false)→
  (∃j:Nat,dR.l0 k T s N (i:Int)=some (.error (j:Int))∧∃t,T[j]? =some t∧fB t s=true)∨(dR.l0 k T s N (i:Int)=some (.ok ())∧∀t∈T,fB t s=false):=by
 intro d
 induction d with
 |zero=>
  intro i N hi hN hb
  obtain⟨N,rfl⟩:=qsc N
  right
  rw[dR.l0,if_neg qom]
  refine⟨rfl,fun t ht=>?_⟩
  obtain⟨j,hj⟩:=List.mem_iff_getElem?.1 ht
  exact hb j (by have:=(List.getElem?_eq_some_iff.1 hj).1;omega) t hj
 |succ d ih=>
  intro i N hi hN hb
  obtain⟨N,rfl⟩:=qsc N
  have hlt:i<T.length:=by omega
  rw[dR.l0,if_pos qom,ac qom,qzd,qzc hlt]
  simp only[qzb]
  by_cases hq:fB T[i] s=true
  ·rw[if_pos hq]
   exact .inl ⟨i,rfl,_,qzc hlt,hq⟩
  ·rw[if_neg hq,wrS i qom]
   refine ih (i+1) N qom qom fun j hj t ht=>?_
   rcases qzK j i with w|w
   ·exact hb j w t ht
   ·have:j=i:=by omega
    subst this
    rw[qzc hlt] at ht
    cases ht
    simpa using hq
/-- where an expression is among others -/
theorem at_k (k:Nat) (hk:2000≤k) {es:List GEx} {T:List ByteArray} (hp:Par es T) (hl:es.length≤1000) (hf:∀e∈es,cG e=true) {x:GEx} (hx:cG x=true) {s:ByteArray} (hs:bl s=fH x) :
  (∃j:Nat,dR.f k T s=some (j:Int)∧es[j]? =some x)∨(dR.f k T s=some (-1)∧x∉es):=by
 have hT:=hp.1
 unfold dR.f
 rcases HM k T s qom T.length 0 k qom qom (fun j hj=>by omega) with⟨j,e1,t,t1,t2⟩|⟨e1,h⟩
 ·rw[show((0:Nat):Int)=0 from rfl] at e1
  rw[e1]
  left
  refine⟨j,rfl,?_⟩
  have hj:j<es.length:=by have:=(List.getElem?_eq_some_iff.1 t1).1;omega
  obtain⟨t',p1,p2⟩:=hp.2 j _ (qzc hj)
  rw[t1] at p1;cases p1
  rw[Fe,p2,hs,beq_iff_eq] at t2
  rw[qzc hj,(FN (hf _ (qze hj)) hx).1 t2]
 ·rw[show((0:Nat):Int)=0 from rfl] at e1
  rw[e1]
  right
  refine⟨rfl,fun hm=>?_⟩
  obtain⟨j,hj⟩:=List.mem_iff_getElem?.1 hm
  obtain⟨t,p1,p2⟩:=hp.2 j x hj
  have:=h t (qzL p1)
  rw[Fe,p2,hs] at this
  simp at this
theorem GZ {es:List GEx} (h:es.Nodup) {x:GEx} {i j:Nat} (hi:es[i]? =some x) (hj:es[j]? =some x):i=j:=
 (List.getElem?_inj (List.getElem?_eq_some_iff.1 hi).1 h).1 (hi.trans hj.symm)
theorem wY {ns:List GNode}:∀(xs:List GEx) (qs:List Int),xs.length=qs.length→(∀(j:Nat) (y:GEx) (q:Int),xs[j]? =some y→qs[j]? =some q→fZ y ns=(q,ns))→dJ xs ns=(qs,ns)
 |[],[],_,_=>tc ns
 |[],_::_,h,_=>by simp at h
 |_::_,[],h,_=>by simp at h
 |x::xs,q::qs,h,H=>by
  rw[rb,H 0 x q rfl rfl,wY xs qs (by simpa using h) (fun j y q h1 h2=>H (j+1) y q (by simpa using h1) (by simpa using h2))]
theorem EU {es:List GEx} {ns:List GNode} (h:Rep es ns) (hn:es.Nodup):∀x:GEx,∀i:Nat,es[i]? =some x→fZ x ns=((i:Int),ns):=by
 refine jC fun x ih i hi=>?_
 have hil:i<ns.length:=by have:=(List.getElem?_eq_some_iff.1 hi).1;rw[h.1] at this;exact this
 obtain⟨e,he,hf,r⟩:=h.2 i _ (qzc hil)
 rw[hi] at he;cases he
 have ha:dJ x.Kids ns=(ns[i].Kids,ns):=wY x.Kids ns[i].Kids r.2.2.2.1.symm fun j y q h1 h2=>by
  obtain⟨hj,hj'⟩:=List.getElem?_eq_some_iff.1 h1
  obtain⟨p,_,p2,p3⟩:=r.2.2.2.2 j hj
  rw[h2] at p2
  cases p2
  rw[h1] at p3
  exact ih y (qzL h1) p p3
 rw[xm,ha]
 unfold rT
 dsimp only
 have hk:∀(j:Nat) (y:GEx),x.Kids[j]? =some y→∃q:Nat,ns[i].Kids[j]? =some (q:Int)∧es[q]? =some y:=fun j y hy=>by
  obtain⟨hj,_⟩:=List.getElem?_eq_some_iff.1 hy
  obtain⟨q,_,q2,q3⟩:=r.2.2.2.2 j hj
  exact⟨q,q2,by rw[q3,hy]⟩
 cases hfi:ns.findIdx? fun m=>pp m (kI x.Kind x.Sym x.N ns[i].Kids) with
 |some j=>
  rw[List.findIdx?_eq_some_iff_getElem] at hfi
  obtain⟨hj,hkey,_⟩:=hfi
  have:=Bv h r.2.2.2.1 hk hj hkey
  rw[GZ hn this hi]
 |none=>
  exfalso
  rw[List.findIdx?_eq_none_iff] at hfi
  have:=hfi _ (qze hil)
  have key:pp ns[i] (kI x.Kind x.Sym x.N ns[i].Kids)=true:=(rX _ _).2 ⟨r.1,r.2.1,r.2.2.1,rfl⟩
  rw[key] at this;cases this
theorem Ds {es:List GEx} {x:GEx} (h:es.Nodup) (hx:x∉es):(es++[x]).Nodup:=by
 refine List.nodup_append.2 ⟨h,by simp,fun a ha b hb=>?_⟩
 rw[List.mem_singleton.1 hb]
 intro e
 subst e
 exact hx ha
theorem F9 {es:List GEx} {T:List ByteArray} {x:GEx} {s:ByteArray} (h:Par es T) (hs:bl s=fH x):Par (es++[x]) (T++[s]):=by
 refine⟨by simp[h.1],fun i e he=>?_⟩
 rcases qzK i es.length with hi|hi
 ·rw[qzG hi] at he
  rw[qzG (by rw[h.1];exact hi)]
  exact h.2 i e he
 ·rw[qzt hi] at he
  have:i=es.length:=by
   have:=(List.getElem?_eq_some_iff.1 he).1
   simp only[qzo] at this;omega
  subst this
  rw[qzW,qzs] at he
  cases he
  rw[←h.1,qzt (qzh _),qzW]
  exact⟨s,rfl,hs⟩
/-- what adding an expression gives -/
def Hn (k:Nat) (x:GEx):Prop:=∀(es:List GEx) (ns:List GNode) (T:List ByteArray) (m s n:Int) (f:Bool),Rep es ns→es.Nodup→Par es T→(∀e∈es,cG e=true)→es.length+exN x≤1000→
 ∃es' T',Rep (es++es') (fZ x ns).2∧(es++es').Nodup∧Par (es++es') T'∧(∀e∈es',e∈pd x)∧es'.length≤exN x∧(∃q:Nat,(fZ x ns).1=(q:Int)∧(es++es')[q]? =some x)∧
  cP.f k ⟨m,ns,s,n,f⟩ T x=some (⟨m,(fZ x ns).2,s,n,f⟩,T',(fZ x ns).1)
theorem F0 (k:Nat) (x:GEx) (hk3:x.Kids.length≤1000) (hform:∀y∈x.Kids,cG y=true) (H:∀y∈x.Kids,Hn k y):∀(d i N:Nat) (es:List GEx) (ns:List GNode) (T:List ByteArray) (acc:List Int) (m s n:Int) (f:Bool),i+d=x.Kids.length→d<N→acc.length=i→Rep es ns→es.Nodup→Par es T→(∀e∈es,cG e=true)→es.length+ek (x.Kids.drop i)≤1000→
  ∃es' T',Rep (es++es') (dJ (x.Kids.drop i) ns).2∧(es++es').Nodup∧Par (es++es') T'∧(∀e∈es',e∈mj (x.Kids.drop i))∧es'.length≤ek (x.Kids.drop i)∧
   ((dJ (x.Kids.drop i) ns).1.length=(x.Kids.drop i).length∧∀(j:Nat) (y:GEx),(x.Kids.drop i)[j]? =some y→∃q:Nat,(dJ (x.Kids.drop i) ns).1[j]? =some (q:Int)∧(es++es')[q]? =some y)∧
   cP.l0 k (cP.f k) x N T m ns s n f acc (i:Int)=some (T',m,(dJ (x.Kids.drop i) ns).2,s,n,f,acc++(dJ (x.Kids.drop i) ns).1):=by
 intro d
 induction d with
 |zero=>
  intro i N es ns T acc m s n f hi hN ha hR hn hp hf hb
  obtain⟨N,rfl⟩:=qsc N
  rw[qzn qom,tc]
  refine⟨[],T,by rwa [qzV],by rwa [qzV],by rwa [qzV],by simp,by simp[fD],⟨rfl,fun j y hy=>by simp at hy⟩,?_⟩
  rw[cP.l0,if_neg qom,qzV]
 |succ d ih=>
  intro i N es ns T acc m s n f hi hN ha hR hn hp hf hb
  obtain⟨N,rfl⟩:=qsc N
  have hlt:i<x.Kids.length:=by omega
  have hm:=qze hlt
  rw[qzj hlt] at hb⊢
  rw[dz] at hb
  obtain⟨e1,T1,a1,a2,a3,a4,a5,⟨q,a6,a7⟩,a8⟩:=H _ hm es ns T m s n f hR hn hp hf qom
  have hf1:∀e∈es++e1,cG e=true:=fun e he=>(List.mem_append.1 he).elim (hf e) fun w=>ES _ (hform _ hm) e (a4 e w)
  obtain⟨e2,T2,b1,b2,b3,b4,b5,⟨b6,b7⟩,b8⟩:=ih (i+1) N (es++e1) (fZ x.Kids[i] ns).2 T1 (acc++[(fZ x.Kids[i] ns).1]) m s n f qom qom (by rw[qzg,qzo];omega) a1 a2 a3 hf1 (by rw[qzg];omega)
  rw[rb]
  dsimp only
  refine⟨e1++e2,T2,by rw[←qzl];exact b1,by rw[←qzl];exact b2,by rw[←qzl];exact b3,fun e he=>?_,by rw[qzg,dz];omega,⟨by rw[qzm,qzm,b6],fun j y hj=>?_⟩,?_⟩
  ·simp only[mj,List.mem_append]
   exact(List.mem_append.1 he).elim (fun w=>.inl (a4 e w)) fun w=>.inr (b4 e w)
  ·rw[←qzl]
   cases j with
   |zero=>
    simp only[qzs,qzi] at hj
    subst hj
    exact⟨q,by rw[qzs,a6],tQ a7⟩
   |succ j=>
    rw[yy] at hj⊢
    exact b7 j y hj
  ·rw[cP.l0,if_pos qom,ac qom,qzd,qzc hlt]
   simp only[qzb]
   rw[a8]
   simp only[qzb]
   rw[ac qom,wrS i qom,b8,qzl]
   rfl
theorem HE:∀x:GEx,gO x→∀k:Nat,3000+exN x≤k→Hn k x:=by
 refine jC fun x ih hx k hk es ns T m s n f hR hn hp hf hb=>?_
 obtain⟨k,rfl⟩:=qsc k
 have h12:=hx.2
 obtain⟨t,t1,t2⟩:=IH x hx.1 qom k qom
 rw[cP.f,t1]
 simp only[qzb]
 rcases at_k k qom hp qom hf hx.1 t2 with⟨j,j1,j2⟩|⟨j1,j2⟩
 ·rw[j1]
  simp only[qzb]
  rw[if_neg qom,EU hR hn x j j2]
  exact⟨[],T,by rwa [qzV],by rwa [qzV],by rwa [qzV],by simp,by simp,⟨j,rfl,by rwa [qzV]⟩,rfl⟩
 ·rw[j1]
  simp only[qzb]
  rw[if_pos (by decide)]
  have hkl:=ig x.Kids
  have hxe:=dG x
  obtain⟨e1,T1,a1,a2,a3,a4,a5,⟨a6,a7⟩,a8⟩:=F0 k x qom (cT hx.1).2 (fun y hy=>ih y hy (hx.kid hy) k (by have:=eQ hy;omega)) x.Kids.length 0 k es ns T [] m s n f qom qom rfl hR hn hp hf (by rw[qzC];omega)
  rw[qzC] at a1 a4 a5 a6 a7 a8
  rw[show((0:Nat):Int)=0 from rfl] at a8
  rw[a8]
  simp only[qzb,qzP]
  have hnot:x∉es++e1:=fun hm=>by
   rcases List.mem_append.1 hm with w|w
   ·exact j2 w
   ·obtain⟨z,hz,q⟩:=nH.1 (a4 x w)
    have:=FX z x q
    have:=eQ hz
    omega
  have hplace:fZ x ns=(((dJ x.Kids ns).2.length:Int),(dJ x.Kids ns).2++[kI x.Kind x.Sym x.N (dJ x.Kids ns).1]):=by
   rw[xm]
   unfold rT
   cases hfi:(dJ x.Kids ns).2.findIdx? fun q=>pp q (kI x.Kind x.Sym x.N (dJ x.Kids ns).1) with
   |none=>rfl
   |some i=>
    exfalso
    rw[List.findIdx?_eq_some_iff_getElem] at hfi
    obtain⟨hi,hkey,_⟩:=hfi
    exact hnot (qzL (Bv a1 a6 a7 hi hkey))
  have hlen1:=a1.1
  have hT1:=a3.1
  rw[qzg] at hlen1 hT1
  rw[ac qom,ac qom,hplace]
  refine⟨e1++[x],T1++[t],?_,?_,?_,fun e he=>?_,by rw[qzg,qzo];omega,⟨(dJ x.Kids ns).2.length,rfl,?_⟩,?_⟩
  ·rw[←qzl];exact G0 hx a1 a6 a7
  ·rw[←qzl];exact Ds a2 hnot
  ·rw[←qzl];exact F9 a3 t2
  ·rcases List.mem_append.1 he with w|w
   ·obtain⟨z,hz,q⟩:=nH.1 (a4 e w)
    exact rB.2 (.inr ⟨z,hz,q⟩)
   ·rw[List.mem_singleton.1 w];exact rB.2 (.inl rfl)
  ·rw[←qzl,←a1.1,qzt (qzh _),qzW];rfl
  ·rw[wrP _ qom]
   rfl
theorem xW (k:Nat) (hk:2000000000000≤k) (x:GEx) (mode:Int) (hx:exN x≤1000000) :
  j4.f k x mode=some (if lc x=true∧(0≤mode∧mode≤4) then⟨mode,(fZ x []).2,0,0,false⟩ else⟨0,[],0,0,false⟩):=by
 unfold j4.f
 rw[mB x qom k qom]
 simp only[qzb]
 by_cases h1:lc x=true
 ·rw[if_pos h1]
  have hf:=sq h1
  by_cases h2:0≤mode∧mode≤4
  ·rw[(yT h2).2,if_pos ⟨h1,h2⟩]
   simp only[qzb,if_true]
   obtain⟨es',T',_,_,_,_,_,_,e⟩:=HE x ⟨hf.2,hf.1⟩ k qom [] [] [] mode 0 0 false yd (by simp) ⟨rfl,fun i e h=>by simp at h⟩ (by simp) (by simp;omega)
   rw[e]
   rfl
  ·rw[(sd mode).2,if_neg (fun q=>h2 q.2)]
   simp only[qzb]
   rw[if_neg (by simpa using h2)]
 ·rw[if_neg h1,if_neg (fun q=>h1 q.1)]
theorem I4 (k:Nat) (l:List GOcc) (t:Int) (hl:l.length≤1000000):∀(d i N:Nat) (a b:List GOcc),i+d=l.length→d<N→a.length≤i→b.length≤i→dW.l0 k l t N a b (i:Int)=some (a++(l.drop i).filter (fun o=>o.To==t),b++(l.drop i).filter (fun o=> !(o.To==t))):=by
 intro d
 induction d with
 |zero=>
  intro i N a b hi hN ha hb
  obtain⟨N,rfl⟩:=qsc N
  rw[dW.l0,if_neg qom,qzn qom]
  simp
 |succ d ih=>
  intro i N a b hi hN ha hb
  obtain⟨N,rfl⟩:=qsc N
  have hlt:i<l.length:=by omega
  rw[dW.l0,if_pos qom,ac qom,qzd,qzc hlt,qzj hlt]
  simp only[qzb]
  by_cases h:l[i].To=t
  ·rw[if_pos h,ac qom,ac qom,wrS i qom,ih (i+1) N _ _ qom qom (by rw[qzg,qzo];omega) qom]
   rw[B4 (by simpa using h),List.filter_cons_of_neg (by simpa using h),qzl];rfl
  ·rw[if_neg h,ac qom,ac qom,wrS i qom,ih (i+1) N _ _ qom qom qom (by rw[qzg,qzo];omega)]
   rw[List.filter_cons_of_neg (by simpa using h),B4 (by simpa using h),qzl];rfl
theorem IT (k:Nat) (hk:1000000000000≤k) (l:List GOcc) (t:Int) (hl:l.length≤1000000):dW.f k l t=some (atM l t,l.filter fun o=> !(o.To==t)):=by
 have:=I4 k l t hl l.length 0 k [] [] qom qom (by simp) (by simp)
 rw[show((0:Nat):Int)=0 from rfl,qzC,qzP,qzP] at this
 unfold dW.f
 rw[this];rfl
theorem G4 (o:GOcc) (n:Int) (h:Few o) (h1: -100000≤o.To+n∧o.To+n≤200000):iC.f o n=some (jA n o):=by
 unfold iC.f
 rw[oq _ h]
 simp only[qzb]
 rw[wr _ qom]
 rfl
theorem HP (k:Nat) (hk:1000000000000≤k) (n:GNode) (t:Int) (kid:List GOcc) (hd:Ok 40 n.Due) (hm:kid.length≤80000000000) (hid:Ids kid) (ht:∀o∈kid, -100000≤o.To+n.N∧o.To+n.N≤200000) :
  dK.f k n t kid=some (⟨n.Kind,n.Sym,n.N,n.Kids,n.Pair,n.Span,Bo t n.N n.Due kid,n.Many⟩,atM n.Due t):=by
 unfold dK.f
 rw[IT k hk n.Due t (by have:=hd.2.2;omega)]
 simp only[qzb]
 have hd2:=hd.filter (fun o=> !(o.To==t))
 have:=cD kid (fun s o=>(iC.f o n.N).bind fun x=>cm.f k s x) (dK.l0 k n kid) (fun s o=>cJ s (jA n.N o)) (fun j s=>Ok (40+j) s)
  (fun N s=>by rw[dK.l0,if_neg qom])
  (fun N s j h=>by
   rw[dK.l0,if_pos qom,ac qom,qzd,qzc h]
   simp only[qzb,qzT]
   rw[wrS j qom])
  (fun j s h hI=>by
   have ho:=hid _ (qze h)
   have hf:Few kid[j]:=by have:=cp ho;omega
   have:=hI.2.2
   refine⟨?_,(hI.put (re ho)).mono qom⟩
   rw[G4 _ _ hf (ht _ (qze h))]
   simp only[qzb]
   rw[mE k hk _ _ qom hI.2.1.few (Gn hf)])
  k (n.Due.filter fun o=> !(o.To==t)) qom (by simpa using hd2)
 rw[this.1]
 rfl
theorem Hy (k:Nat) (hk:1000000000000≤k) (g:GGraph) (hmo:0≤g.Mode∧g.Mode≤4) (t sy:Int) (ev:Option Int) (hsy:∀s,0≤s→(s=sy↔ev=some s)) (f0:Bool) (N i:Nat) (ns:List GNode) (full:Bool) (found:List (List GOcc)) (n:GNode) (e:GEx) (es:List GEx) (hi:i<g.Nodes.length) (hg:g.Nodes.length≤1000) (hl:ns.length=g.Nodes.length) (hn:ns[i]? =some n)
  (hx:gO e) (hR:lI es i n e) (hS:ly t n) (hf:found.length=i) (hF:ju t es found) (hs:0≤g.Seen∧g.Seen≤23) (ht:0≤t∧t≤100000) :
  aL.l0 k g t sy (N+1) ns full found (i:Int) f0=aL.l0 k g t sy N (ns.set i (eO (aw g.Mode g.Seen t ev found n))) (full||decide (40<(eO (aw g.Mode g.Seen t ev found n)).Many)) (found++[(aw g.Mode g.Seen t ev found n).2]) ((i+1:Nat):Int) f0:=by
 have hout:=tT (mode:=g.Mode) (seen:=g.Seen) (ev:=ev) hx hR hS hf hF hs
 have h12:=hx.2
 have hsm:=hout.small h12
 have hkl:=hR.2.2.2.1
 obtain⟨S1,S2,S3,S4,S5,m0,m1,T1,T2,T3,T4⟩:=hS
 have W:∀(q:Nat),q≤30420000000→IntKind.wrap .i64 (n.Many+(q:Int))=n.Many+(q:Int):=fun q hq=>wr _ qom
 have fin:∀(m:GNode) (out:List GOcc),aw g.Mode g.Seen t ev found n=(m,out)→m.Many=n.Many→∀m':GNode,m'=eO (m,out)→
   (if full=true then req ((0:Int)≤(i:Int)) (req ((i:Int)<(ns.length:Nat)) (req ((found.length+1) * 24≤140737488355328) (aL.l0 k g t sy N (ns.set i m') true (found++[out]) ((i+1:Nat):Int) f0))) else req ((0:Int)≤(i:Int)) (req ((i:Int)<(ns.length:Nat)) (req ((found.length+1) * 24≤140737488355328) (aL.l0 k g t sy N (ns.set i m') (decide (40<n.Many+(out.length:Int))) (found++[out]) ((i+1:Nat):Int) f0)))) =
   aL.l0 k g t sy N (ns.set i (eO (aw g.Mode g.Seen t ev found n))) (full||decide (40<(eO (aw g.Mode g.Seen t ev found n)).Many)) (found++[(aw g.Mode g.Seen t ev found n).2]) ((i+1:Nat):Int) f0:=by
  intro m out h hm m' hm'
  rw[h,hm']
  have:(eO (m,out)).Many=n.Many+(out.length:Int):=by show m.Many+_=_;rw[hm]
  rw[this]
  cases full
  ·rw[if_neg (by decide),oF,ac qom,ac qom,ac qom]
  ·rw[if_pos rfl,Bool.true_or,ac qom,ac qom,ac qom]
 rw[aL.l0,if_pos qom,ac qom,ac qom,qzd,hn]
 simp only[qzb]
 rw[wrS i qom]
 rcases gZ (cT hx.1).1 with⟨hk',hK⟩|⟨hk',hK⟩|⟨hk',hK⟩|⟨hk',hK⟩|⟨hk',hK⟩|⟨hk',hK⟩|⟨hk',hK⟩ <;> rw[←hR.1] at hk'
 ·rw[if_pos hk']
  have hsym0:0≤n.Sym:=by rw[hR.2.1];exact(od (cT hx.1).1).2.1.1
  by_cases hq:n.Sym=sy
  ·have he:ev=some n.Sym:=(hsy n.Sym hsym0).1 hq
   rw[if_pos hq,ac (by decide)]
   have hfd:aw g.Mode g.Seen t ev found n=(n,[⟨t,t,[g.Seen]⟩]):=by unfold aw;rw[if_pos hk',if_pos he]
   rw[show IntKind.wrap .i64 (n.Many+(((0+1:Nat)):Int))=n.Many+(([⟨t,t,[g.Seen]⟩]:List GOcc).length:Int) from W 1 qom]
   exact fin n _ hfd rfl _ rfl
  ·have he:¬ev=some n.Sym:=fun w=>hq ((hsy n.Sym hsym0).2 w)
   rw[if_neg hq]
   have hfd:aw g.Mode g.Seen t ev found n=(n,[]):=by unfold aw;rw[if_pos hk',if_neg he]
   rw[show IntKind.wrap .i64 (n.Many+((0:Nat):Int))=n.Many+(([]:List GOcc).length:Int) from W 0 qom]
   exact fin n _ hfd rfl _ rfl
 ·have a:=bj hR hf hF (j:=0) (x:=e.Kids[0]'qom) (by simp)
  have b:=bj hR hf hF (j:=1) (x:=e.Kids[1]'qom) (by simp)
  have hN:exN (e.Kids[0]'qom)+exN (e.Kids[1]'qom)+1=exN e:=by obtain⟨x,y,hK'⟩:=gC hK;rw[gD hK'];simp only[hK',qzv,qzF]
  have h2:=a.two b qom
  rw[cq] at h2
  obtain⟨q0,a1,a2,a3,_⟩:=bP hR hf (j:=0) (by rw[hK];decide)
  obtain⟨q1,b1,b2,b3,_⟩:=bP hR hf (j:=1) (by rw[hK];decide)
  rw[if_neg qom,if_pos hk']
  rw[ac (by decide),ac qom,a2]
  simp only[qzb]
  rw[ac qom,ac qom,qzd,a3]
  simp only[qzb]
  rw[rJ k hk _ qom a.2.1.few]
  simp only[qzb]
  rw[ac (by decide),ac qom,b2]
  simp only[qzb]
  rw[ac qom,ac qom,qzd,b3]
  simp only[qzb]
  rw[eo k hk _ _ qom a.2.1.few b.2.1.few]
  simp only[qzb]
  have hfd:aw g.Mode g.Seen t ev found n=(n,cM (ap found n 0) (ap found n 1)):=by unfold aw;rw[if_neg qom,if_pos hk']
  rw[hfd] at hsm
  rw[W _ hsm]
  exact fin n _ hfd rfl _ rfl
 ·have a:=bj hR hf hF (j:=0) (x:=e.Kids[0]'qom) (by simp)
  have b:=bj hR hf hF (j:=1) (x:=e.Kids[1]'qom) (by simp)
  have hN:exN (e.Kids[0]'qom)+exN (e.Kids[1]'qom)+1=exN e:=by obtain⟨x,y,hK'⟩:=gC hK;rw[gD hK'];simp only[hK',qzv,qzF]
  have h2:=a.two b qom
  rw[cq] at h2
  obtain⟨q0,a1,a2,a3,_⟩:=bP hR hf (j:=0) (by rw[hK];decide)
  obtain⟨q1,b1,b2,b3,_⟩:=bP hR hf (j:=1) (by rw[hK];decide)
  rw[if_neg qom,if_neg qom,if_pos hk']
  rw[ac (by decide),ac qom,a2]
  simp only[qzb]
  rw[ac qom,ac qom,qzd,a3]
  simp only[qzb]
  rw[ac (by decide),ac qom,b2]
  simp only[qzb]
  rw[ac qom,ac qom,qzd,b3]
  simp only[qzb]
  rw[Bc k hk g.Mode hmo n.Pair _ _ 40 40 (ap found n 0).length (ap found n 1).length S1 S2 a.2.1 b.2.1 (qzh _) (qzh _) (by rw[Nat.mul_add,Nat.mul_comm (ap found n 1).length (ap found n 0).length];omega)]
  simp only[qzb]
  have hfd:aw g.Mode g.Seen t ev found n=(⟨n.Kind,n.Sym,n.N,n.Kids,⟨(gk g.Mode n.Pair.Left n.Pair.Right (ap found n 0) (ap found n 1)).1,(gk g.Mode n.Pair.Left n.Pair.Right (ap found n 0) (ap found n 1)).2.1⟩,n.Span,n.Due,n.Many⟩,(gk g.Mode n.Pair.Left n.Pair.Right (ap found n 0) (ap found n 1)).2.2):=by unfold aw;rw[if_neg qom,if_neg qom,if_pos hk']
  rw[hfd] at hsm
  rw[W _ hsm]
  exact fin _ _ hfd rfl _ rfl
 ·have a:=bj hR hf hF (j:=0) (x:=e.Kids[0]'qom) (by simp)
  have b:=bj hR hf hF (j:=1) (x:=e.Kids[1]'qom) (by simp)
  have hN:exN (e.Kids[0]'qom)+exN (e.Kids[1]'qom)+1=exN e:=by obtain⟨x,y,hK'⟩:=gC hK;rw[gD hK'];simp only[hK',qzv,qzF]
  have h2:=a.two b qom
  rw[cq] at h2
  obtain⟨q0,a1,a2,a3,_⟩:=bP hR hf (j:=0) (by rw[hK];decide)
  obtain⟨q1,b1,b2,b3,_⟩:=bP hR hf (j:=1) (by rw[hK];decide)
  rw[if_neg qom,if_neg qom,if_neg qom,if_pos hk']
  rw[ac (by decide),ac qom,a2]
  simp only[qzb]
  rw[ac qom,ac qom,qzd,a3]
  simp only[qzb]
  rw[ac (by decide),ac qom,b2]
  simp only[qzb]
  rw[ac qom,ac qom,qzd,b3]
  simp only[qzb]
  rw[BA k hk g.Mode hmo n.Pair _ _ 40 (ap found n 1).length qom qom qom S1 a.2.1 b.2.1 qom (qzh _)]
  simp only[qzb]
  have hfd:aw g.Mode g.Seen t ev found n=(⟨n.Kind,n.Sym,n.N,n.Kids,⟨(kt g.Mode n.Pair.Left (ap found n 0) (ap found n 1)).1,n.Pair.Right⟩,n.Span,n.Due,n.Many⟩,(kt g.Mode n.Pair.Left (ap found n 0) (ap found n 1)).2):=by unfold aw;rw[if_neg qom,if_neg qom,if_neg qom,if_pos hk']
  rw[hfd] at hsm
  rw[W _ hsm]
  exact fin _ _ hfd rfl _ rfl
 ·have a:=bj hR hf hF (j:=0) (x:=e.Kids[0]'qom) (by simp)
  have b:=bj hR hf hF (j:=1) (x:=e.Kids[1]'qom) (by simp)
  have c:=bj hR hf hF (j:=2) (x:=e.Kids[2]'qom) (by simp)
  have hN:exN (e.Kids[0]'qom)+exN (e.Kids[1]'qom)+exN (e.Kids[2]'qom)+1=exN e:=by obtain⟨x,y,z,hK'⟩:=iP hK;rw[iQ hK'];simp only[hK',qzv,qzF]
  have:=fu (e.Kids[1]'qom)
  have:=fu (e.Kids[2]'qom)
  have h2:=a.two c qom
  have h3:=b.small qom
  rw[cq] at h2
  obtain⟨q0,a1,a2,a3,_⟩:=bP hR hf (j:=0) (by rw[hK];decide)
  obtain⟨q1,b1,b2,b3,_⟩:=bP hR hf (j:=1) (by rw[hK];decide)
  obtain⟨q2,c1,c2,c3,_⟩:=bP hR hf (j:=2) (by rw[hK];decide)
  rw[if_neg qom,if_neg qom,if_neg qom,if_neg qom,if_pos hk']
  rw[ac (by decide),ac qom,a2]
  simp only[qzb]
  rw[ac qom,ac qom,qzd,a3]
  simp only[qzb]
  rw[ac (by decide),ac qom,b2]
  simp only[qzb]
  rw[ac qom,ac qom,qzd,b3]
  simp only[qzb]
  rw[ac (by decide),ac qom,c2]
  simp only[qzb]
  rw[ac qom,ac qom,qzd,c3]
  simp only[qzb]
  rw[AS k hk g.Mode hmo n.Span _ _ _ 40 (ap found n 2).length qom qom qom S3 S4 a.2.1 b.2.1 c.2.1 qom qom (qzh _)]
  simp only[qzb]
  have hfd:aw g.Mode g.Seen t ev found n=(⟨n.Kind,n.Sym,n.N,n.Kids,n.Pair,⟨(ge g.Mode n.Span.Left n.Span.Mid (ap found n 0) (ap found n 1) (ap found n 2)).1,(ge g.Mode n.Span.Left n.Span.Mid (ap found n 0) (ap found n 1) (ap found n 2)).2.1⟩,n.Due,n.Many⟩,(ge g.Mode n.Span.Left n.Span.Mid (ap found n 0) (ap found n 1) (ap found n 2)).2.2):=by unfold aw;rw[if_neg qom,if_neg qom,if_neg qom,if_neg qom,if_pos hk']
  rw[hfd] at hsm
  rw[W _ hsm]
  exact fin _ _ hfd rfl _ rfl
 ·have a:=bj hR hf hF (j:=0) (x:=e.Kids[0]'qom) (by simp)
  have b:=bj hR hf hF (j:=1) (x:=e.Kids[1]'qom) (by simp)
  have c:=bj hR hf hF (j:=2) (x:=e.Kids[2]'qom) (by simp)
  have hN:exN (e.Kids[0]'qom)+exN (e.Kids[1]'qom)+exN (e.Kids[2]'qom)+1=exN e:=by obtain⟨x,y,z,hK'⟩:=iP hK;rw[iQ hK'];simp only[hK',qzv,qzF]
  have:=fu (e.Kids[1]'qom)
  have:=fu (e.Kids[2]'qom)
  have h2:=a.two b qom
  have h3:=c.small qom
  rw[cq] at h2
  obtain⟨q0,a1,a2,a3,_⟩:=bP hR hf (j:=0) (by rw[hK];decide)
  obtain⟨q1,b1,b2,b3,_⟩:=bP hR hf (j:=1) (by rw[hK];decide)
  obtain⟨q2,c1,c2,c3,_⟩:=bP hR hf (j:=2) (by rw[hK];decide)
  rw[if_neg qom,if_neg qom,if_neg qom,if_neg qom,if_neg qom,if_pos hk']
  rw[ac (by decide),ac qom,a2]
  simp only[qzb]
  rw[ac qom,ac qom,qzd,a3]
  simp only[qzb]
  rw[ac (by decide),ac qom,b2]
  simp only[qzb]
  rw[ac qom,ac qom,qzd,b3]
  simp only[qzb]
  rw[ac (by decide),ac qom,c2]
  simp only[qzb]
  rw[ac qom,ac qom,qzd,c3]
  simp only[qzb]
  rw[zP k hk g.Mode n.Span _ _ _ 40 (ap found n 1).length qom qom qom S3 S4 a.2.1 b.2.1 c.2.1 qom (qzh _) qom]
  simp only[qzb]
  have hfd:aw g.Mode g.Seen t ev found n=(⟨n.Kind,n.Sym,n.N,n.Kids,n.Pair,⟨(cF g.Mode n.Span.Left n.Span.Mid (ap found n 0) (ap found n 1) (ap found n 2)).1,(cF g.Mode n.Span.Left n.Span.Mid (ap found n 0) (ap found n 1) (ap found n 2)).2.1⟩,n.Due,n.Many⟩,(cF g.Mode n.Span.Left n.Span.Mid (ap found n 0) (ap found n 1) (ap found n 2)).2.2):=by unfold aw;rw[if_neg qom,if_neg qom,if_neg qom,if_neg qom,if_neg qom,if_pos hk']
  rw[hfd] at hsm
  rw[W _ hsm]
  exact fin _ _ hfd rfl _ rfl
 ·have a:=bj hR hf hF (j:=0) (x:=e.Kids[0]'qom) (by simp)
  have hN:exN (e.Kids[0]'qom)+1=exN e:=by obtain⟨x,hK'⟩:=tP hK.1;rw[ua hK'];simp only[hK',qzv]
  have hsa:=a.small qom
  obtain⟨q0,a1,a2,a3,_⟩:=bP hR hf (j:=0) (by rw[hK.1];decide)
  rw[if_neg qom,if_neg qom,if_neg qom,if_neg qom,if_neg qom,if_neg qom,if_pos hk']
  rw[ac (by decide),ac qom,a2]
  simp only[qzb]
  rw[ac qom,ac qom,qzd,a3]
  simp only[qzb]
  rw[HP k hk n t _ S5 qom a.2.1 (fun o ho=>by have:=a.2.2.2 o ho;have h7:=hR.2.2.1;have hh:=hK.2;omega)]
  simp only[qzb]
  have hfd:aw g.Mode g.Seen t ev found n=(⟨n.Kind,n.Sym,n.N,n.Kids,n.Pair,n.Span,Bo t n.N n.Due (ap found n 0),n.Many⟩,atM n.Due t):=by unfold aw;rw[if_neg qom,if_neg qom,if_neg qom,if_neg qom,if_neg qom,if_neg qom]
  rw[hfd] at hsm
  rw[W _ hsm]
  exact fin _ _ hfd rfl _ rfl
theorem min_k (a b:Int):ja.f a b=some (if b<a then b else a):=by
 unfold ja.f
 by_cases h:a<b
 ·rw[if_pos h,if_neg qom]
 ·rw[if_neg h]
  by_cases h2:b<a
  ·rw[if_pos h2]
  ·rw[if_neg h2,show a=b by omega]
theorem GQ (k:Nat) (g:GGraph) (i:Nat) (n:GNode) (hn:g.Nodes[i]? =some n) (t:Int) (hk:2000≤k) (hl:n.Due.length≤1000):bz.l3 k g (i:Int) k t 0=some (ir t n.Due):=by
 have:=cD n.Due (fun s o=>some (if o.To<s then o.To else s)) (bz.l3 k g (i:Int)) (fun s o=>if o.To<s then o.To else s) (fun _ _=>True)
  (fun N s=>by
   rw[bz.l3,ac qom,qzd,hn]
   simp only[qzb]
   rw[if_neg qom])
  (fun N s j h=>by
   rw[bz.l3,ac qom,qzd,hn]
   simp only[qzb]
   rw[if_pos qom,ac qom]
   rw[ac qom,qzd,qzc h]
   simp only[qzb]
   rw[min_k,wrS j qom]
   rfl)
  (fun j s h _=>⟨rfl,trivial⟩) k t qom trivial
 exact this.1
theorem GO (k:Nat) (hk:1000000000000≤k) (g:GGraph) (b:Int) (hg:g.Nodes.length≤1000) (hd:∀n∈g.Nodes,n.Due.length≤1000):bz.f k g b=some (bW g.Nodes b):=by
 have L:∀(d i N:Nat) (s:Int),i+d=g.Nodes.length→d<N→bz.l2 k g N s (i:Int)=some (bW (g.Nodes.drop i) s):=by
  intro d
  induction d with
  |zero=>
   intro i N s hi hN
   obtain⟨N,rfl⟩:=qsc N
   rw[bz.l2,if_neg qom,qzn qom];rfl
  |succ d ih=>
   intro i N s hi hN
   obtain⟨N,rfl⟩:=qsc N
   have hlt:i<g.Nodes.length:=by omega
   rw[bz.l2,if_pos qom,GQ k g i _ (qzc hlt) s qom (hd _ (qze hlt))]
   simp only[qzb]
   rw[wrS i qom,ih (i+1) N _ qom qom,qzj hlt]
   rfl
 have:=L g.Nodes.length 0 k b qom qom
 rw[show((0:Nat):Int)=0 from rfl,qzC] at this
 unfold bz.f
 rw[this];rfl
theorem Ct {τ:Type} {mode seen t:Int} {ev:Option Int} {es:List GEx} {nodes:List GNode} (hR:mK t es nodes) (hs:0≤seen∧seen≤23) (full0:Bool) (ret:List GNode→Bool→List (List GOcc)→τ) (L:Nat→List GNode→Bool→List (List GOcc)→Int→Option τ)
  (hend:∀N ns full found,ns.length=nodes.length→L (N+1) ns full found (nodes.length:Int)=some (ret ns full found))
  (hstep:∀(N i:Nat) (ns:List GNode) (full:Bool) (found:List (List GOcc)) (n:GNode) (e:GEx),i<nodes.length→ns.length=nodes.length→ns[i]? =some n→gO e→lI es i n e→ly t n→found.length=i→ju t es found→
   L (N+1) ns full found (i:Int)=L N (ns.set i (eO (aw mode seen t ev found n))) (full||decide (40<(eO (aw mode seen t ev found n)).Many)) (found++[(aw mode seen t ev found n).2]) ((i+1:Nat):Int)) :
  ∀(d N i:Nat),i+d=nodes.length→d<N→L N ((fy mode seen t ev nodes i).1++nodes.drop i) (full0||dw (fy mode seen t ev nodes i).1) (fy mode seen t ev nodes i).2 (i:Int)=some (ret (ax mode seen t ev nodes).1 (full0||dw (ax mode seen t ev nodes).1) (ax mode seen t ev nodes).2):=by
 intro d
 induction d with
 |zero=>
  intro N i hi hN
  obtain⟨N,rfl⟩:=qsc N
  have:i=nodes.length:=by omega
  subst this
  rw[oP,xS,qzV,hend _ _ _ _ (gz mode seen t ev nodes).1]
 |succ d ih=>
  intro N i hi hN
  obtain⟨N,rfl⟩:=qsc N
  have hlt:i<nodes.length:=by omega
  have hl:=j7 (mode:=mode) (seen:=seen) (t:=t) (ev:=ev) (ns:=nodes) (i:=i) qom
  obtain⟨e,he,hx,hr⟩:=hR.1.2 i nodes[i] (qzc hlt)
  have hn:((fy mode seen t ev nodes i).1++nodes.drop i)[i]? =some nodes[i]:=by
   rw[qzt qom,hl.1,qzW,qzj hlt];rfl
  rw[hstep N i _ _ _ nodes[i] e hlt (by rw[qzg,qzI,hl.1];omega) hn hx hr (hR.2.2 _ (qze _)) hl.2 (nK hR hs qom)]
  have:=ih N (i+1) qom qom
  rw[lA hlt] at this
  simp only[nU] at this
  rw[←this,qzj hlt,List.set_append_right _ _ qom,hl.1,qzW,List.set_cons_zero,qzl,List.singleton_append]
  congr 1
  unfold dw
  rw[List.any_append,Bool.or_assoc]
  simp
theorem B9 (k:Nat) (hk:1000000000000≤k) (g:GGraph) (hmo:0≤g.Mode∧g.Mode≤4) (t sy:Int) (ev:Option Int) (hsy:∀s,0≤s→(s=sy↔ev=some s)) (es:List GEx) (hR:mK t es g.Nodes) (h1:1≤g.Nodes.length) (hs:0≤g.Seen∧g.Seen≤23) (ht:0≤t∧t≤100000) :
  aL.f k g t sy=some (⟨g.Mode,(ax g.Mode g.Seen t ev g.Nodes).1,g.Seen,g.Now,g.Full||dw (ax g.Mode g.Seen t ev g.Nodes).1⟩,gP (ax g.Mode g.Seen t ev g.Nodes).2):=by
 have h12:=hR.2.1
 have:=Ct (mode:=g.Mode) (ev:=ev) hR hs g.Full (fun ns full found=>(ns,full,found,g.Full)) (fun N ns full found i=>aL.l0 k g t sy N ns full found i g.Full)
  (fun N ns full found hl=>by rw[aL.l0,if_neg qom])
  (fun N i ns full found n e hi hl hn hx hr hS hf hF=>Hy k hk g hmo t sy ev hsy g.Full N i ns full found n e es hi qom hl hn hx hr hS hf hF hs ht) g.Nodes.length k 0 qom qom
 simp only[fy,vw,List.foldl_nil,qzC,qzP,dw,List.any_nil,Bool.or_false] at this
 unfold aL.f
 rw[show((0:Nat):Int)=0 from rfl] at this
 rw[this]
 simp only[qzb]
 have hl:=gz g.Mode g.Seen t ev g.Nodes
 have q:=congrArg (Option.bind · fun x=>some ((⟨g.Mode,(ax g.Mode g.Seen t ev g.Nodes).1,g.Seen,g.Now,g.Full||dw (ax g.Mode g.Seen t ev g.Nodes).1⟩:GGraph),x)) (vA hl.2 h1 qom)
 simp only[uZ,qzb] at q
 exact q
theorem AJ (k:Nat) (hk:1000000000000≤k) (e:GEv) (mode seen now:Int) (hmo:0≤mode∧mode≤4) (es:List GEx) (hs:0≤seen∧seen≤23) (he:e.At≤1000) (f0:Bool):∀(f N:Nat) (ns:List GNode) (out:List GOcc) (T:Int),gl T es ns→0≤T→T<e.At→(e.At-T).toNat≤f→f+1<N→out.length+40 * f≤1000000→
  dL.l0 k e N mode ns seen now false out f0=some (mode,(cK mode seen e.At f ns out).1,seen,now,(cK mode seen e.At f ns out).2.1,(cK mode seen e.At f ns out).2.2,f0)
 |0,_,_,_,_,_,_,_,_,_,_=>by omega
 |f+1,N,ns,out,T,h,hT0,hT,hf,hN,hol=>by
  obtain⟨N,rfl⟩:=qsc N
  have nl:=oE ns e.At
  rw[dL.l0,if_neg (by decide),GO k hk ⟨mode,ns,seen,now,false⟩ e.At (show ns.length≤1000 by have:=h.2.1.2;omega) h.due]
  simp only[qzb]
  unfold cK
  by_cases hlt:bW ns e.At<e.At
  ·rw[if_pos hlt,if_pos hlt]
   have hT':T<bW ns e.At:=by
    rcases oz ns e.At with q|⟨n,q1,o,q2,q3⟩
    ·omega
    ·rw[q3];exact((h.2.2 n q1).2.2.2.1 o q2).1
   have hR:=h.ready (t:=bW ns e.At) qom
   rw[B9 k hk ⟨mode,ns,seen,now,false⟩ hmo (bW ns e.At) (-1) none (fun s hs0=>⟨fun q=>by omega,fun q=>by simp at q⟩) es hR h.2.1.1 hs qom]
   simp only[qzb,oF]
   obtain⟨x,hx,lf⟩:=lu (mode:=mode) (ev:=none) hR h.2.1.1 hs
   have ls:=lf.small hx.2
   rw[ac qom]
   by_cases hfu:dw (ax mode seen (bW ns e.At) none ns).1=true
   ·rw[if_pos hfu,hfu]
    obtain⟨N,rfl⟩:=qsc N
    rw[dL.l0,if_pos rfl]
   ·have hfu':dw (ax mode seen (bW ns e.At) none ns).1=false:=by simpa using hfu
    rw[if_neg hfu,hfu']
    have ll:=qT (mode:=mode) (ev:=none) hR h.2.1.1 hs hfu'
    exact AJ k hk e mode seen now hmo es hs he f0 f N _ _ (bW ns e.At) (mW h (Int.le_of_lt hT') nl.2 hs hfu') qom hlt qom qom (by rw[qzg];omega)
  ·rw[if_neg hlt,if_neg hlt]
theorem Gl (k:Nat) (hk:1000000000000≤k) (e:GEv) (hsym:0≤e.Sym) (g:GGraph) (hmo:0≤g.Mode∧g.Mode≤4) (es:List GEx) (T:Int) (h:gl T es g.Nodes) (hT:0≤T∧T<e.At∧e.At≤1000) (hs:0≤g.Seen∧g.Seen≤23) (hf:g.Full=false) :
  dL.f k g e=some (match iv g.Mode g.Seen g.Nodes e with|none=>(⟨g.Mode,[],g.Seen+1,e.At,true⟩,[])|some r=>(⟨g.Mode,r.1,g.Seen+1,e.At,false⟩,r.2)):=by
 unfold dL.f
 rw[hf,AJ k hk e g.Mode g.Seen g.Now hmo es hs hT.2.2 false 1001 k g.Nodes [] T h hT.1 hT.2.1 qom qom (by simp)]
 simp only[qzb]
 unfold iv
 rw[wr (g.Seen+1) qom]
 by_cases h1:(cK g.Mode g.Seen e.At 1001 g.Nodes []).2.1=true
 ·rw[if_pos h1,if_pos h1]
 ·rw[if_neg h1,if_neg h1]
  obtain⟨T',a,b,c,d,f,gg⟩:=oT (mode:=g.Mode) (before:=e.At) hs 1001 g.Nodes [] T h hT.2.1 qom (fun o hh=>by simp at hh) (by simp) (by simpa using h1)
  have hR:=c.ready (t:=e.At) qom
  rw[B9 k hk ⟨g.Mode,(cK g.Mode g.Seen e.At 1001 g.Nodes []).1,g.Seen,g.Now,false⟩ hmo e.At e.Sym (some e.Sym) (fun s _=>⟨fun q=>by rw[q],fun q=>(pH q).symm⟩) es hR c.2.1.1 hs qom]
  simp only[qzb,oF]
  obtain⟨x,hx,lf⟩:=lu (mode:=g.Mode) (ev:=some e.Sym) hR c.2.1.1 hs
  have ls:=lf.small hx.2
  rw[ac qom]
  by_cases h2:dw (ax g.Mode g.Seen e.At (some e.Sym) (cK g.Mode g.Seen e.At 1001 g.Nodes []).1).1=true
  ·rw[if_pos h2,if_pos h2,wr (g.Seen+1) qom]
  ·rw[if_neg h2,if_neg h2,wr (g.Seen+1) qom]

theorem Bl (k:Nat) (hk:2000000000000≤k) (l:List GRule) (hl:l.length≤1000000) (h:∀r∈l,exN r.Ex≤1000000):dr.f k l=some l:=by
 have:=ic l id (dr.l0 k l) (fun N acc=>by rw[dr.l0,if_neg qom])
  (fun N acc i hi ha=>by
   have hm:=h _ (qze hi)
   rw[dr.l0,if_pos qom,ac qom,qzd,qzc hi]
   simp only[qzb]
   rw[G2 _ hm k qom]
   simp only[qzb]
   rw[ac qom,wrS i qom]
   generalize l[i]=z
   obtain⟨a,b,c,⟨d1,d2,d3,d4⟩,e,f,g,u,v⟩:=z
   rfl) k qom
 unfold dr.f
 rw[this,qW];rfl
theorem Bb (k:Nat) (hk:2000000000000≤k) (l:List GFire) (hl:l.length≤1000000) (h:∀f∈l,Few f.Occ):cW.f k l=some l:=by
 have:=ic l id (cW.l0 k l) (fun N acc=>by rw[cW.l0,if_neg qom])
  (fun N acc i hi ha=>by
   rw[cW.l0,if_pos qom,ac qom,qzd,qzc hi]
   simp only[qzb]
   rw[ac qom,oq _ (h _ (qze hi))]
   simp only[qzb]
   rw[ac qom,wrS i qom];rfl) k qom
 unfold cW.f
 rw[this,qW];rfl
theorem GH (k:Nat) (hk:1000000000000≤k) (g:GGraph) (hl:g.Nodes.length≤1000) (h:∀n∈g.Nodes,DO n):dN.f k g=some g:=by
 have:=ic g.Nodes id (dN.l0 k g) (fun N acc=>by rw[dN.l0,if_neg qom])
  (fun N acc i hi ha=>by
   have hn:=h _ (qze hi)
   have h1:=hn.1
   have c:∀l∈[(g.Nodes[i]).Pair.Left,(g.Nodes[i]).Pair.Right,(g.Nodes[i]).Span.Left,(g.Nodes[i]).Span.Mid,(g.Nodes[i]).Due],cl.f k l=some l:=fun l hl=>rJ k hk l (by have:=(hn.2 l hl).1;omega) (hn.2 l hl).2
   rw[dN.l0,if_pos qom,ac qom,qzd,qzc hi]
   simp only[qzb]
   rw[ac qom]
   unfold mH.f mJ.f
   rw[c _ (by simp),c _ (by simp),c _ (by simp),c _ (by simp),c _ (by simp)]
   simp only[qzb]
   rw[ac qom,wrS i qom];rfl) k qom
 unfold dN.f
 rw[this,qW];rfl
theorem vv (k:Nat) (hk:2000000000000≤k) {e:GEng} (h:gb e):bL.f k e=some e:=by
 have hev:=dS h.evs
 have hfew:=fj h.rules
 have hlen:=h.len
 have hf:=h.fired.1
 have hk4:=h.keys.1
 have:=ic e.Graphs id (bL.l0 k e) (fun N acc=>by rw[bL.l0,if_neg qom])
  (fun N acc i hi ha=>by
   have g:=(h.graphs _ (qze hi)).slim
   rw[bL.l0,if_pos qom,ac qom,qzd,qzc hi]
   simp only[qzb]
   rw[GH k qom _ qom g.2]
   simp only[qzb]
   rw[ac qom,wrS i qom];rfl) k qom
 unfold bL.f
 rw[Bl k hk e.Rules qom (fun r hr=>(ef h.rules hr).small.2)]
 simp only[qzb]
 rw[ac qom,ac qom,Bb k hk e.Fired qom (fun f hf=>by
  have:=cp ((eV f.Occ).1 (h.fired.2 f hf).2.1).2.2.2.2
  show f.Occ.Ids.length≤1000;omega)]
 simp only[qzb]
 rw[this,qW];rfl
theorem HV (k:Nat) (hk:2000000000000≤k) (l:List GRule) (hl:l.length≤1000000) (hs:∀r∈l,mT r):db.f k l=some (if dO l=true then qI l else⟨[],[],[],[],[]⟩):=by
 unfold db.f
 rw[lX k qom l hl hs]
 simp only[qzb]
 by_cases h:dO l=true
 ·rw[if_pos h,if_pos h,Bl k hk l hl (fun r hr=>(hs r hr).2)]
  simp only[qzb]
  rw[ac qom,ac qom,ac qom]
  have:=ic l B0 (db.l0 k l) (fun N acc=>by rw[db.l0,if_neg qom])
   (fun N acc i hi ha=>by
    have hr:=ef h (qze hi)
    rw[db.l0,if_pos qom,ac qom,qzd,qzc hi]
    simp only[qzb]
    rw[ac qom,xW k hk _ _ (hs _ (qze hi)).2,if_pos ⟨hr.ex,hr.mode⟩]
    simp only[qzb]
    rw[ac qom,wrS i qom];rfl) k qom
  rw[this]
  rfl
 ·rw[if_neg h,if_neg h]
/-- those of one priority, then those below -/
def lay (p:Int→Int) (n:Nat):Nat→List Int
 |0=>[]
 |q+1=>((List.range n).map fun i:Nat=>(i:Int)).filter (fun x=>decide (p x=(q:Int)))++lay p n q
def ahead (p:Int→Int) (x y:Int):Prop:=p y<p x∨(p x=p y∧x<y)
theorem yE {p:Int→Int} {n:Nat} {x:Int}:∀{q:Nat},x∈lay p n q↔(∃i:Nat,i<n∧x=i)∧0≤p x∧p x<q
 |0=>by simp only[lay,sM,false_iff];intro h;omega
 |q+1=>by
  rw[lay,List.mem_append,yE (q:=q),List.mem_filter,List.mem_map]
  constructor
  ·rintro(⟨⟨i,h,rfl⟩,h2⟩|⟨h,h2⟩)
   ·have:=of_decide_eq_true h2;exact⟨⟨i,List.mem_range.1 h,rfl⟩,by omega⟩
   ·exact⟨h,by omega⟩
  ·rintro⟨⟨i,h,rfl⟩,h2⟩
   by_cases h3:p i=q
   ·exact .inl ⟨⟨i,List.mem_range.2 h,rfl⟩,decide_eq_true h3⟩
   ·exact .inr ⟨⟨i,h,rfl⟩,by omega⟩
theorem GV (n:Nat):((List.range n).map fun i:Nat=>(i:Int)).Pairwise (·<·):=List.pairwise_map.2 (List.pairwise_lt_range.imp fun h=>by omega)
theorem vG {p:Int→Int} {n:Nat}:∀q:Nat,(lay p n q).Pairwise (ahead p)
 |0=>List.Pairwise.nil
 |q+1=>by
  rw[lay,List.pairwise_append]
  refine⟨?_,vG q,fun x hx y hy=>?_⟩
  ·refine((GV n).filter _).imp_of_mem fun{a b} ha hb h=>.inr ⟨?_,h⟩
   rw[List.mem_filter] at ha hb
   have:=of_decide_eq_true ha.2
   have:=of_decide_eq_true hb.2
   omega
  ·rw[List.mem_filter] at hx
   have:=of_decide_eq_true hx.2
   have:=(yE.1 hy).2
   exact .inl qom
theorem BZ {p:Int→Int} {x:Int}:∀{l:List Int},l.Pairwise (fun a b=>ahead p b a)→(∀y∈l,y<x)→(inR p l x).Pairwise (fun a b=>ahead p b a)
 |[],_,_=>List.pairwise_singleton _ _
 |y::l,h,hl=>by
  have hy:=hl y (by simp)
  rw[List.pairwise_cons] at h
  unfold inR
  split
  ·rename_i hp
   rw[List.pairwise_cons]
   refine⟨fun z hz=>?_,BZ h.2 fun z hz=>hl z (by simp[hz])⟩
   rcases qzp.1 ((uN p x l).mem_iff.1 hz) with rfl|q
   ·exact .inl hp
   ·exact h.1 z q
  ·rename_i hp
   have hxy:ahead p y x:=by
    by_cases e:p x=p y
    ·exact .inr ⟨e.symm,hy⟩
    ·exact .inl qom
   rw[List.pairwise_cons]
   refine⟨fun z hz=>?_,List.pairwise_cons.2 h⟩
   rcases qzp.1 hz with rfl|q
   ·exact hxy
   ·have h1:=h.1 z q
    unfold ahead at h1 hxy⊢
    omega
theorem zj (p:Int→Int):∀n:Nat,(la p n).Pairwise (fun a b=>ahead p b a)
 |0=>List.Pairwise.nil
 |n+1=>by
  rw[sa]
  exact BZ (zj p n) fun y hy=>by obtain⟨i,hi,rfl⟩:=AZ.1 hy;omega
theorem EO {p:Int→Int} {n q:Nat}:(lay p n q).Nodup:=(vG q).imp fun h e=>by subst e;unfold ahead at h;omega
theorem E5 (rs:List GRule) (hp:∀r∈rs,0≤r.Pri∧r.Pri≤9):lay (jE rs) rs.length 10=eE rs:=by
 refine List.Perm.eq_of_pairwise (le:=ahead (jE rs)) (fun a b _ _ h1 h2=>by unfold ahead at h1 h2;omega) (vG 10) (List.pairwise_reverse.2 (zj _ _)) ?_
 refine(List.perm_ext_iff_of_nodup EO (mF rs)).2 fun x=>?_
 rw[yE,jR]
 refine⟨fun h=>h.1,fun h=>⟨h,?_⟩⟩
 obtain⟨i,hi,rfl⟩:=h
 have:=hp _ (qze hi)
 unfold jE
 rw[qzd,qzc hi]
 show 0≤(rs[i]).Pri∧(rs[i]).Pri<((10:Nat):Int)
 omega
theorem Bz (k:Nat) (hk:1000000000000≤k) (rs:List GRule) (h:dO rs=true):ba.f k rs=some (eE rs):=by
 have hl:=fj h
 have L3:∀(q:Nat) (out:List Int),out.length≤100→∀(d i N:Nat),i+d=rs.length→d<N→ba.l3 k rs (q:Int) N (out++((List.range i).map fun j:Nat=>(j:Int)).filter (fun x=>decide (jE rs x=(q:Int)))) (i:Int)=some (out++((List.range rs.length).map fun j:Nat=>(j:Int)).filter (fun x=>decide (jE rs x=(q:Int)))):=by
  intro q out ho d
  induction d with
  |zero=>
   intro i N hi hN
   obtain⟨N,rfl⟩:=qsc N
   rw[ba.l3,if_neg qom,show i=rs.length by omega]
  |succ d ih=>
   intro i N hi hN
   obtain⟨N,rfl⟩:=qsc N
   have hii:i<rs.length:=by omega
   have hlen:(out++((List.range i).map fun j:Nat=>(j:Int)).filter (fun x=>decide (jE rs x=(q:Int)))).length≤200:=by
    have:=uL (fun x=>decide (jE rs x=(q:Int))) ((List.range i).map fun j:Nat=>(j:Int))
    rw[mu,List.length_range] at this
    rw[qzg];omega
   have hpr:jE rs (i:Int)=(rs[i]).Pri:=by unfold jE;rw[qzd,qzc hii];rfl
   have nx:=ih (i+1) N qom qom
   rw[List.range_succ,List.map_append,List.filter_append,qzA,nB] at nx
   rw[ba.l3,if_pos qom,ac qom,qzd,qzc hii]
   simp only[qzb]
   rw[wrS i qom]
   by_cases e:(rs[i]).Pri=(q:Int)
   ·rw[if_pos e,ac qom]
    rw[B4 (by rw[hpr];exact decide_eq_true e),List.filter_nil,←qzl] at nx
    exact nx
   ·rw[if_neg e]
    rw[List.filter_cons_of_neg (by rw[hpr];simpa using e),List.filter_nil,qzV] at nx
    exact nx
 have L2:∀(q N:Nat) (out:List Int),q≤10→q<N→out.length+4 * q≤40→ba.l2 k rs N out ((q:Int)-1)=some (out++lay (jE rs) rs.length q):=by
  intro q
  induction q with
  |zero=>
   intro N out _ hN _
   obtain⟨N,rfl⟩:=qsc N
   rw[ba.l2,if_pos qom,lay,qzV]
  |succ q ih=>
   intro N out hq hN ho
   obtain⟨N,rfl⟩:=qsc N
   have:=L3 q out qom rs.length 0 k qom qom
   rw[List.range_zero,nB,List.filter_nil,qzV,show((0:Nat):Int)=0 from rfl] at this
   rw[ba.l2,if_neg qom,show((q+1:Nat):Int)-1=(q:Int) by omega,this]
   simp only[qzb]
   rw[wr _ qom,ih N _ qom qom (by
    have:=uL (fun x=>decide (jE rs x=(q:Int))) ((List.range rs.length).map fun j:Nat=>(j:Int))
    rw[mu,List.length_range] at this
    rw[qzg];omega),lay,qzl]
 unfold ba.f
 rw[lX k hk rs qom (fun r hr=>(ef h hr).small),h]
 simp only[qzb,if_true]
 have:=L2 10 k [] qom qom (by simp)
 rw[show((10:Nat):Int)-1=9 from rfl] at this
 rw[this,qzP,E5 rs fun r hr=>(ef h hr).pri]
 rfl
theorem CY {c:Nat} {e:GEng} (h:Own c e) {o:GOcc} (ho:dv o=true) (hmd:eG e.Events.length o):∃x,e.Events[(fo o).toNat]? =some x∧ko.f e o=some x.Val:=by
 have hids:=((eV o).1 ho).2.2.2.2
 have hil:=cp hids
 have h1:=List.length_pos_iff.2 hmd.2.2.1
 obtain⟨m,hm⟩:∃m,o.Ids.length=m+1:=⟨o.Ids.length-1,by omega⟩
 have hl:fo o=o.Ids[m]:=by
  unfold fo
  rw[qzU,show o.Ids.length-1=m by omega,qzc qom];rfl
 have lm:fo o∈o.Ids:=by rw[hl];exact qze _
 have l0:=(hids.2 _ lm).1
 have l1:=hmd.2.2.2 _ lm
 have hlt:(fo o).toNat<e.Events.length:=by omega
 refine⟨_,qzc hlt,?_⟩
 unfold ko.f
 rw[hm,wrP m qom,ac qom,qzd,qzc qom]
 simp only[qzb]
 rw[←hl,ac qom,qzc hlt]
 rfl
def qc (r:Int×GEng×Graiser):Gl9Call:=⟨r.2.1,r.2.2.queue,r.2.2.raised,r.1⟩
theorem HT (n:Int):hU.f n=some (decide (0≤n∧n≤1000)):=by
 unfold hU.f
 by_cases h:n<0
 ·rw[if_pos h,decide_eq_false qom]
 ·rw[if_neg h]
  by_cases h2:1000<n
  ·rw[decide_eq_true h2,decide_eq_false qom];rfl
  ·rw[decide_eq_false h2,decide_eq_true qom];rfl
theorem Ed {c:Nat} {e:GEng} {q:Graiser} (h:Own c e) {i:Nat} (hi:i<e.Rules.length) {o:GOcc} (ho:dv o=true) (hmd:eG e.Events.length o) {z:Int} (hz:z≠0) :
  fY.f ⟨e,q.queue,q.raised,z⟩ (i:Int) o=some ⟨e,q.queue,q.raised,z⟩:=by
 obtain⟨x,hx,hv⟩:=CY h ho hmd
 unfold fY.f
 rw[ac qom,qzd]
 dsimp only
 rw[qzc hi]
 simp only[qzb]
 rw[hv]
 simp only[qzb]
 split
 ·rfl
 split
 ·rfl
 first|rw[if_neg hz]|rfl
theorem GS {c:Nat} {m:Int} {e:GEng} {q:Graiser} (h:Own c e) (hc:c≤900000) (hq:QI m q) (hm:m≤100) {i:Nat} (hi:i<e.Rules.length) {o:GOcc} (ho:dv o=true) (hmd:eG e.Events.length o) :
  fY.f ⟨e,q.queue,q.raised,0⟩ (i:Int) o=some (qc (dU e i o q)):=by
 obtain⟨x,hx,hv⟩:=CY h ho hmd
 have hids:=((eV o).1 ho).2.2.2.2
 have hil:=cp hids
 have hr:=ef h.rules (qze hi)
 have hkl:=h.keys.1
 have hkey:=hr.key
 have hadd:=hr.add
 have hfl:=h.fired.1
 have hkn:(e.Rules[i]).Key.toNat<e.Keys.length:=by omega
 have hk0:=h.keys.2 _ (qze hkn)
 have hg:e.Keys.getD (e.Rules[i]).Key.toNat 0=e.Keys[(e.Rules[i]).Key.toNat]:=by rw[qzB,qzc hkn];rfl
 have hqr:=hq.raised
 have hqs:=hq.sum
 unfold fY.f dU
 dsimp only
 rw[ac qom,qzd,qzc hi,hx]
 simp only[qzb]
 rw[hv]
 simp only[qzb]
 by_cases h1:x.Val<(e.Rules[i]).Low
 ·rw[if_pos h1,if_neg qom];rfl
 rw[if_neg h1]
 by_cases h2:(e.Rules[i]).High<x.Val
 ·rw[if_pos h2,if_neg qom];rfl
 rw[if_neg h2,if_pos True.intro,if_pos (show(e.Rules[i]).Low≤x.Val∧x.Val≤(e.Rules[i]).High from⟨by omega,by omega⟩),ac qom,ac qom,qzc hkn]
 simp only[qzb]
 rw[wr _ qom,HT,hg]
 simp only[qzb]
 by_cases h3:0≤e.Keys[(e.Rules[i]).Key.toNat]+(e.Rules[i]).Add∧e.Keys[(e.Rules[i]).Key.toNat]+(e.Rules[i]).Add≤1000
 rotate_left
 ·rw[if_neg (by simpa using h3),if_neg h3];rfl
 rw[if_pos (by simpa using h3),if_pos h3,ac qom,ac qom,oq o (show o.Ids.length≤1000 by omega)]
 simp only[qzb]
 rw[ac qom]
 by_cases h4:(e.Rules[i]).Raise<0
 ·rw[if_pos h4,if_pos h4];rfl
 rw[if_neg h4,if_neg h4]
 by_cases h5:q.raised=6
 ·rw[if_neg qom,if_pos h5];rfl
 rw[if_pos qom,if_neg h5,ac qom,wr _ qom]
 rfl
abbrev Flat8:=(List GRule)×(List GGraph)×(List GEv)×(List Int)×(List GFire)×(List GEv)×Int×Int
def An (r:Int×GEng×Graiser):Flat8:=(r.2.1.Rules,r.2.1.Graphs,r.2.1.Events,r.2.1.Keys,r.2.1.Fired,r.2.2.queue,r.2.2.raised,r.1)
theorem CN (k:Nat) (i:Nat) (y:GGraph×(List GOcc)) (hy:y.2.length≤1000) {z:Int} (hz:z≠0) (e:GEng) (q:Graiser) (c:Nat) (ho:Own c e) (hi:i<e.Rules.length) (hF:∀o∈y.2,dv o=true∧eG e.Events.length o) :
  ∀(d j N:Nat),j+d=y.2.length→d<N→aX.l3 k (i:Int) y N e.Rules e.Graphs e.Events e.Keys e.Fired q.queue q.raised z (j:Int)=some (An (z,e,q)):=by
 intro d
 induction d with
 |zero=>
  intro j N hj hN
  obtain⟨N,rfl⟩:=qsc N
  rw[aX.l3,if_neg qom];rfl
 |succ d ih=>
  intro j N hj hN
  obtain⟨N,rfl⟩:=qsc N
  have hlt:j<y.2.length:=by omega
  have hf:=hF _ (qze hlt)
  rw[aX.l3,if_pos qom,ac qom,ac qom,qzd,qzc hlt]
  simp only[qzb]
  rw[show(⟨e.Rules,e.Graphs,e.Events,e.Keys,e.Fired⟩:GEng)=e from rfl,Ed ho hi hf.1 hf.2 hz]
  simp only[qzb]
  rw[wrS j qom]
  exact ih (j+1) N qom qom
theorem FV (k:Nat) (i:Nat) (y:GGraph×(List GOcc)) (m:Int) (hm:m≤100) (hy:y.2.length≤1000):∀(d j N:Nat) (e:GEng) (q:Graiser) (c:Nat),j+d=y.2.length→d<N→Own c e→c+d≤900000→QI m q→i<e.Rules.length→(∀o∈y.2,dv o=true∧eG e.Events.length o)→
  aX.l3 k (i:Int) y N e.Rules e.Graphs e.Events e.Keys e.Fired q.queue q.raised 0 (j:Int)=some (An (fO i (y.2.drop j) e q)):=by
 intro d
 induction d with
 |zero=>
  intro j N e q c hj hN ho hc hq hi hF
  obtain⟨N,rfl⟩:=qsc N
  rw[aX.l3,if_neg qom,qzn qom];rfl
 |succ d ih=>
  intro j N e q c hj hN ho hc hq hi hF
  obtain⟨N,rfl⟩:=qsc N
  have hlt:j<y.2.length:=by omega
  have hf:=hF _ (qze hlt)
  obtain⟨f1,f2,f3,f4⟩:=EM ho qom hq hm hi hf.1 hf.2
  have hF':∀o∈y.2,dv o=true∧eG (dU e i y.2[j] q).2.1.Events.length o:=fun o hh=>by rw[f3.evs];exact hF o hh
  have hi':i<(dU e i y.2[j] q).2.1.Rules.length:=by rw[f3.rules];exact hi
  rw[aX.l3,if_pos qom,ac qom,ac qom,qzd,qzc hlt]
  simp only[qzb]
  rw[show(⟨e.Rules,e.Graphs,e.Events,e.Keys,e.Fired⟩:GEng)=e from rfl,GS ho qom hq hm hi hf.1 hf.2]
  simp only[qzb,qc]
  rw[wrS j qom,qzj hlt]
  unfold fO
  by_cases h0:(dU e i y.2[j] q).1=0
  ·rw[if_pos h0,h0]
   exact ih (j+1) N _ _ (c+1) qom qom f2 qom f4 hi' hF'
  ·rw[if_neg h0]
   exact CN k i y hy h0 _ _ _ f2 hi' hF' d (j+1) N qom qom
def exR (r:Int×GEng×Graiser) (f:Bool):Except Gl9Call Flat8:=if f=true then .error (qc r) else .ok (An r)
theorem G3 (k:Nat) (hk:1000000000000≤k) {e0:GEng} (h0:gb e0) {x:GEv} (hx:aF e0.Events<x.At∧x.At≤1000) (hsy:0≤x.Sym) (h23:e0.Events.length≤23) (m:Int) (hm:m≤100) (os:List Int) (hos:∀i∈os,∃j:Nat,j<e0.Rules.length∧i=j) (hnd:os.Nodup) (hol:os.length≤4) :
  ∀(d j N:Nat) (e:GEng) (q:Graiser) (c:Nat),j+d=os.length→d<N→Mid e0 x (os.drop j) e→Own c e→c+40 * d≤800000→QI m q→
  ∃f,aX.l2 k x os N e.Rules e.Graphs e.Events e.Keys e.Fired q.queue q.raised 0 (j:Int)=some (exR (fQ x (os.drop j) e q) f):=by
 intro d
 induction d with
 |zero=>
  intro j N e q c hj hN hM ho hc hq
  obtain⟨N,rfl⟩:=qsc N
  rw[qzn qom]
  rw[aX.l2,if_neg qom]
  exact⟨false,rfl⟩
 |succ d ih=>
  intro j N e q c hj hN hM ho hc hq
  obtain⟨N,rfl⟩:=qsc N
  have hlt:j<os.length:=by omega
  obtain⟨i,hi,he⟩:=hos _ (qze hlt)
  have hdrop:os.drop j=(i:Int)::os.drop (j+1):=by rw[qzj hlt,he]
  have hnot:(i:Int)∉os.drop (j+1):=by
   have:(os.drop j).Nodup:=hnd.sublist (List.drop_sublist j os)
   rw[hdrop] at this
   exact(List.nodup_cons.1 this).1
  rw[hdrop] at hM⊢
  have hgl:=hM.len
  have hig:i<e.Graphs.length:=by omega
  have hig0:i<e0.Graphs.length:=by rw[h0.len];exact hi
  have hge:e.Graphs[i]? =some e0.Graphs[i]:=by rw[hM.old i (by simp),qzc hig0]
  have hG:=h0.graphs _ (qze hig0)
  obtain⟨s1,s2⟩:=wO k hk hG h23 hx
  obtain⟨es,hi0⟩:=hG.inv
  have hlate:=hG.late
  have hse:=hG.seen'
  have s3:=Gl k hk x hsy e0.Graphs[i] hG.mode es _ hi0 ⟨hlate.1,hx.1,hx.2⟩ qom hG.full
  rw[aX.l2,if_pos qom,if_pos rfl,ac qom,ac qom,qzd,qzc hlt]
  simp only[qzb]
  rw[he,ac qom,ac qom,qzd,hge]
  simp only[qzb]
  rw[s3]
  unfold fQ kR
  rw[qzd,hge]
  simp only[]
  cases hst:iv e0.Graphs[i].Mode e0.Graphs[i].Seen e0.Graphs[i].Nodes x with
  |none=>
   simp only[qzb,if_true]
   rw[if_neg (show ¬(2:Int)=0 by decide),ac qom,ac qom]
   exact⟨true,rfl⟩
  |some r=>
   obtain⟨t1,t2,t3,t4,t5,t6⟩:=s2 r hst
   simp only[qzb,qzw,if_false]
   rw[ac qom,ac qom]
   have hev:e.Events.length=e0.Events.length+1:=by rw[hM.evs,qzg,qzo]
   have hown:Own c ⟨e.Rules,e.Graphs.set i ⟨e0.Graphs[i].Mode,r.1,e0.Graphs[i].Seen+1,x.At,false⟩,e.Events,e.Keys,e.Fired⟩:=⟨ho.rules,ho.evs,ho.keys,ho.fired⟩
   have hF:∀o∈r.2,dv o=true∧eG e.Events.length o:=fun o hh=>by
    have:=t3 o hh
    refine⟨this.1,?_⟩
    rw[hev];exact this.2
   obtain⟨_,f2,f3,f4⟩:=Dl k i (r.2,⟨e0.Graphs[i].Mode,r.1,e0.Graphs[i].Seen+1,x.At,false⟩) m hm (by dsimp only;omega) r.2.length 0 k ⟨e.Rules,e.Graphs.set i ⟨e0.Graphs[i].Mode,r.1,e0.Graphs[i].Seen+1,x.At,false⟩,e.Events,e.Keys,e.Fired⟩ q c (by simp) qom hown qom hq (by rw[hM.rules];exact hi) hF
   have f1:=FV k i (⟨e0.Graphs[i].Mode,r.1,e0.Graphs[i].Seen+1,x.At,false⟩,r.2) m hm (by dsimp only;omega) r.2.length 0 k ⟨e.Rules,e.Graphs.set i ⟨e0.Graphs[i].Mode,r.1,e0.Graphs[i].Seen+1,x.At,false⟩,e.Events,e.Keys,e.Fired⟩ q c (by simp) qom hown qom hq (by rw[hM.rules];exact hi) hF
   simp only[qzC] at f1 f2 f3 f4
   rw[show((0:Nat):Int)=0 from rfl] at f1
   rw[f1]
   simp only[qzb,An]
   rw[wrS j qom]
   by_cases hz:(fO i r.2 ⟨e.Rules,e.Graphs.set i ⟨e0.Graphs[i].Mode,r.1,e0.Graphs[i].Seen+1,x.At,false⟩,e.Events,e.Keys,e.Fired⟩ q).1=0
   ·rw[if_pos hz,hz]
    have hgr:=f3.graphs
    have hmid:Mid e0 x (os.drop (j+1)) (fO i r.2 ⟨e.Rules,e.Graphs.set i ⟨e0.Graphs[i].Mode,r.1,e0.Graphs[i].Seen+1,x.At,false⟩,e.Events,e.Keys,e.Fired⟩ q).2.1:=by
     refine⟨f3.rules.trans hM.rules,f3.evs.trans hM.evs,by rw[hgr,List.length_set];exact hgl,fun a ha=>?_,fun a ha g hg=>?_⟩
     ·rw[hgr,Bd (by intro q;subst q;exact hnot ha)]
      exact hM.old a (by simp[ha])
     ·rw[hgr] at hg
      by_cases hai:a=i
      ·subst hai
       rw[vp hig] at hg
       cases hg
       exact t1
      ·rw[Bd qom] at hg
       exact hM.new a (by simp only[qzp,not_or];exact⟨by omega,ha⟩) g hg
    exact ih (j+1) N _ _ (c+r.2.length) qom qom hmid f2 qom f4
   ·rw[if_neg hz]
    obtain⟨N,rfl⟩:=qsc N
    refine⟨false,?_⟩
    rw[aX.l2]
    by_cases hj':(((j+1:Nat):Int)<((os.length:Nat):Int))
    ·rw[if_pos hj',if_neg hz];rfl
    ·rw[if_neg hj'];rfl
theorem Be (k:Nat) (hk:1000000000000≤k) {e:GEng} (h:gb e) {x:GEv} (hx:aF e.Events<x.At∧x.At≤1000000) (hs:0≤x.Sym∧x.Sym<5∧0≤x.Val∧x.Val≤100) (m:Int) (hm:m≤100) {q:Graiser} (hq:QI m q) :
  aX.f k ⟨e,q.queue,q.raised,0⟩ x=some (qc (aQ e x q)):=by
 have hev:=dS h.evs
 have hfew:=fj h.rules
 have hlast:=(jX h.evs).1
 unfold aX.f aQ
 dsimp only
 by_cases h1:e.Events.length=24
 ·rw[if_neg qom,if_pos (.inl h1)];rfl
 rw[if_pos qom]
 by_cases h2:1000<x.At
 ·rw[if_pos h2,if_pos (.inr h2)];rfl
 rw[if_neg h2,if_neg qom,ac qom,Bz k hk e.Rules h.rules]
 simp only[qzb]
 have hev':fI (e.Events++[x])=true:=rC h.evs qom (by
  unfold jV
  simp only[qzf,decide_eq_true_eq];omega) hx.1
 have hmid:Mid e x (eE e.Rules) ⟨e.Rules,e.Graphs,e.Events++[x],e.Keys,e.Fired⟩:=by
  refine⟨rfl,rfl,h.len,fun i hi=>rfl,fun i hi g hg=>?_⟩
  exfalso
  exact hi (jR.2 ⟨i,by have:=(List.getElem?_eq_some_iff.1 hg).1;rw[←h.len];exact this,rfl⟩)
 have hown:Own (500000+2000 * e.Events.length) ⟨e.Rules,e.Graphs,e.Events++[x],e.Keys,e.Fired⟩:=by
  refine⟨h.rules,hev',h.keys,h.fired.1,fun f hf=>?_⟩
  obtain⟨a,b,c⟩:=h.fired.2 f hf
  refine⟨a,b,c.mono ?_⟩
  dsimp only
  rw[qzg,qzo];omega
 obtain⟨f,r1⟩:=G3 k hk h (x:=x) ⟨hx.1,by omega⟩ hs.1 qom m hm (eE e.Rules) (fun i hi=>jR.1 hi) (mF _) (by rw[fx];exact hfew) (eE e.Rules).length 0 k ⟨e.Rules,e.Graphs,e.Events++[x],e.Keys,e.Fired⟩ q _ qom (by rw[fx];omega) hmid hown (by rw[fx];omega) hq
 simp only[qzC] at r1
 rw[show((0:Nat):Int)=0 from rfl] at r1
 rw[r1]
 unfold exR
 cases f <;> rfl
theorem lr {β:Type} (m:Nat) (b:β) (L:Nat→Int→Option (Except β Unit)) (h0:∀N,L (N+1) (m:Int)=some (.ok ()))
  (h1:∀N i,i<m→L (N+1) (i:Int)=L N ((i+1:Nat):Int)) (N:Nat) (hN:m<N):L N 0=some (.ok ()):=by
 have:=jv m (fun _=>true) b L h0 (fun N i hi=>by rw[h1 N i hi,if_pos rfl]) N hN
 rw[this,if_pos (fun _ _=>rfl)]
theorem lP (k:Nat) (hk:1000000000000≤k) {l:List GOcc} (h:dy l=true):bY.f k l=some true:=by
 rw[EP k hk l ⟨by have:=jf h;omega,qU h⟩,h]
theorem F4 (k:Nat) (hk:2000000000000≤k) {s T:Int} {es:List GEx} {ns:List GNode} (h:gl T es ns) (hT:0≤T∧T≤1000) {i:Nat} {n:GNode} (hn:ns[i]? =some n) (hm:kr (eG s) n):bQ.f k n (i:Int)=some true:=by
 have hmem:=qzL hn
 obtain⟨o1,o2,o3,o4,o5⟩:=ml h hmem hm hT
 obtain⟨e,he,hx,hR⟩:=h.1.2 i n hn
 have ha:=Ao hx hR
 have hh:eH e=true:=by have:=hx.1;rw[iR] at this;simp only[qzf] at this;exact this.1
 unfold eH at hh
 simp only[qzf,decide_eq_true_eq,sf] at hh
 obtain⟨⟨⟨⟨hk1,hs1⟩,hs2⟩,hs3⟩,hN⟩:=hh
 obtain⟨⟨_,_⟩,hM,hD,hD2,_⟩:=h.2.2 n hmem
 have hkid:∀j,(hj:j<n.Kids.length)→0≤n.Kids[j]∧n.Kids[j]<(i:Int):=fun j hj=>by
  have hjl:j<e.Kids.length:=by rw[←hR.2.2.2.1];exact hj
  obtain⟨q,q1,q2,_⟩:=hR.2.2.2.2 j hjl
  rw[qzc hj] at q2
  simp only[qzi] at q2
  omega
 have k3:n.Kids.length≤3:=by
  have:ff e.Kind≤3:=by
   unfold ff;repeat' split
   all_goals omega
  rw[hR.2.2.2.1];omega
 have c0:=lr n.Kids.length false (fun N s=>bQ.l0 k n (i:Int) N s) (fun N=>by rw[bQ.l0,if_neg qom]) (fun N j hj=>by
  have:=hkid j hj
  rw[bQ.l0,if_pos qom,ac qom,qzd,qzc hj]
  simp only[qzb]
  rw[if_neg qom,ac qom,if_pos qom,wrS j qom]) k qom
 have c1:=lr n.Kids.length false (fun N s=>bQ.l1 k n (i:Int) N s) (fun N=>by rw[bQ.l1,if_neg qom]) (fun N j hj=>by
  have:=hkid j hj
  rw[bQ.l1,if_pos qom,ac qom,qzd,qzc hj]
  simp only[qzb]
  rw[if_neg qom,ac qom,if_pos qom,wrS j qom]) k qom
 have hpair:kJ.f k n.Pair=some true:=by
  unfold kJ.f
  rw[lP k qom o1]
  simp only[qzb,if_true]
  rw[lP k qom o2]
  rfl
 have hspan:kx.f k n.Span=some true:=by
  unfold kx.f
  rw[lP k qom o3]
  simp only[qzb,if_true]
  rw[lP k qom o4]
  rfl
 unfold bQ.f
 rw[lC]
 simp only[qzb]
 rw[if_pos (by rw[hR.2.2.2.1,hR.1];omega),if_neg (by rw[hR.2.1];omega),if_pos (by rw[hR.2.1];omega),if_neg qom,if_neg qom,hpair]
 simp only[qzb,if_true]
 rw[hspan]
 simp only[qzb,if_true]
 rw[lP k qom o5]
 simp only[qzb,if_true]
 by_cases h7:n.Kind=7
 ·rw[if_pos (by rw[←hR.1];exact h7)] at hN
  simp only[qzf,decide_eq_true_eq] at hN
  rw[if_pos h7,if_neg (by rw[hR.2.2.1];omega),if_neg (by rw[hR.2.2.1];omega),c0]
  rfl
 ·rw[if_neg (by rw[←hR.1];exact h7)] at hN
  simp only[decide_eq_true_eq] at hN
  rw[if_neg h7,if_pos (by rw[hR.2.2.1];exact hN),if_neg (by rw[hD h7];simp),c1]
  rfl
theorem Ev (k:Nat) (hk:2000000000000≤k) {now:Int} {seen:Nat} {g:GGraph} (h:iz now seen g):bJ.f k g=some true:=by
 obtain⟨es,hi⟩:=h.inv
 have hlen:=hi.2.1
 have h1:=h.now'
 have h2:=h.late
 have h3:=h.seen'
 have h4:=h.few
 have L:=lr g.Nodes.length false (fun N s=>bJ.l2 k g N s) (fun N=>by rw[bJ.l2,if_neg qom]) (fun N i hlt=>by
  have hmem:=qze hlt
  obtain⟨_,_,hD2,_⟩:=(hi.2.2 _ hmem).2
  have ol:=jf (ml hi hmem (h.made _ hmem) h.late).2.2.2.2
  have D:=lr (g.Nodes[i]).Due.length false (fun N s=>bJ.l3 k g (i:Int) N s) (fun N=>by
   rw[bJ.l3,ac qom,qzd,qzc hlt]
   simp only[qzb]
   rw[if_neg qom]) (fun N j hj=>by
   have:=(hD2 _ (qze hj)).1
   rw[bJ.l3,ac qom,qzd,qzc hlt]
   simp only[qzb]
   rw[if_pos qom,ac qom,ac qom,qzd,qzc hj]
   simp only[qzb]
   rw[if_pos qom,wrS j qom]) k qom
  rw[bJ.l2,if_pos qom,ac qom,qzd,qzc hlt]
  simp only[qzb]
  rw[F4 k hk hi h.late (qzc hlt) (h.made _ hmem)]
  simp only[qzb,if_true]
  rw[D]
  simp only[qzb]
  rw[wrS i qom]) k qom
 unfold bJ.f
 rw[(yT h.mode).2]
 simp only[qzb,if_true]
 rw[if_neg qom,if_neg qom,if_neg qom,if_neg qom,if_neg qom,if_neg qom,L]
 rfl
theorem GL (k:Nat) (hk:2000000≤k) (s:Nat) (l:List GOcc) (h:l.length≤1000∧All (eG s) l∧Ids l):bZ.f k l s=some true:=by
 have L:=lr l.length false (fun N i=>bZ.l0 k l s N i) (fun N=>by rw[bZ.l0,if_neg qom]) (fun N i hi=>by
  have hm:=qze hi
  have hil:=cp (h.2.2 _ hm)
  have hM:=h.2.1 _ hm
  have h1:=List.length_pos_iff.2 hM.2.2.1
  obtain⟨m,hm'⟩:∃m,(l[i]).Ids.length=m+1:=⟨(l[i]).Ids.length-1,by omega⟩
  have:=hM.2.2.2 _ (qze (show m<(l[i]).Ids.length by omega))
  rw[bZ.l0,if_pos qom,ac qom,qzd,qzc hi]
  simp only[qzb]
  rw[ac qom,hm',wrP m qom,ac qom,qzd,qzc qom]
  simp only[qzb]
  rw[if_pos qom,wrS i qom]) k qom
 unfold bZ.f
 rw[L]
 rfl
theorem Ga (k:Nat) (hk:2000000000000≤k) {now:Int} {seen:Nat} {g:GGraph} (h:iz now seen g):dk.f k g seen=some true:=by
 obtain⟨es,hi⟩:=h.inv
 have hlen:=hi.2.1
 have L:=lr g.Nodes.length false (fun N i=>dk.l0 k g seen N i) (fun N=>by rw[dk.l0,if_neg qom]) (fun N i hlt=>by
  have hn':=qze hlt
  obtain⟨o1,o2,o3,o4,o5⟩:=ml hi hn' (h.made _ hn') h.late
  obtain⟨m1,m2,m3,m4,m5⟩:=h.made _ hn'
  have each:∀l,dy l=true→All (eG seen) l→bZ.f k l seen=some true:=fun l ho hm=>GL k qom seen l ⟨by have:=jf ho;omega,hm,zf ho⟩
  rw[dk.l0,if_pos qom,ac qom,qzd,qzc hlt]
  simp only[qzb]
  rw[each _ o1 m1]
  simp only[qzb,if_true]
  rw[each _ o2 m2]
  simp only[qzb,if_true]
  rw[each _ o3 m3]
  simp only[qzb,if_true]
  rw[each _ o4 m4]
  simp only[qzb,if_true]
  rw[each _ o5 m5]
  simp only[qzb,if_true]
  rw[wrS i qom]) k qom
 unfold dk.f
 rw[L]
 rfl
/-- nearly valid: each part is small, and the graphs are graphs of something -/
structure vn (e:GEng):Prop where
 rules:e.Rules.length≤1000∧∀r∈e.Rules,mT r
 graphs:e.Graphs.length≤1000∧∀g∈e.Graphs,∃now seen,iz now seen g
 evs:e.Events.length≤1000
 keys:e.Keys.length≤1000
 fired:e.Fired.length≤560000∧∀f∈e.Fired,Few f.Occ
def qX (e:GEng) (g:GGraph):Bool:=decide (g.Seen=(e.Events.length:Int))&&decide (g.Now=aF e.Events)
def sb (x:Int):Bool:=decide (0≤x∧x≤1000)
def oU (e:GEng) (f:GFire):Bool:=decide (0≤f.Rule∧f.Rule<(e.Rules.length:Int))&&(dv f.Occ&&decide (fo f.Occ<(e.Events.length:Int)))
def lH (e:GEng):Bool:=dO e.Rules&&(decide (e.Graphs.length=e.Rules.length)&&(fI e.Events&&(decide (e.Keys.length=4)&&(e.Graphs.all (qX e)&&(e.Keys.all sb&&e.Fired.all (oU e))))))
theorem GB {α:Type} (l:List α) (p:α→Bool) (L:Nat→Int→Option (Except Int Unit)) (h0:∀N,L (N+1) (l.length:Int)=some (.ok ()))
  (h1:∀N i (h:i<l.length),L (N+1) (i:Int)=if p l[i]=true then some (.error (i:Int)) else L N ((i+1:Nat):Int)):∀(d i N:Nat),i+d=l.length→d<N→
  ∃v,L N (i:Int)=some v∧((l.drop i).any p=false∧v= .ok ()∨(l.drop i).any p=true∧∃j:Nat,v= .error (j:Int)):=by
 intro d
 induction d with
 |zero=>
  intro i N hi hN
  obtain⟨N,rfl⟩:=qsc N
  rw[qzn qom,show i=l.length by omega]
  exact⟨_,h0 N,.inl ⟨rfl,rfl⟩⟩
 |succ d ih=>
  intro i N hi hN
  obtain⟨N,rfl⟩:=qsc N
  have hlt:i<l.length:=by omega
  rw[h1 N i hlt,qzj hlt,List.any_cons]
  by_cases hp:p l[i]=true
  ·rw[if_pos hp,hp]
   exact⟨_,rfl,.inr ⟨rfl,i,rfl⟩⟩
  ·rw[if_neg hp]
   obtain⟨v,h2,h3⟩:=ih (i+1) N qom qom
   have:p l[i]=false:=by simpa using hp
   rw[this,oF]
   exact⟨v,h2,h3⟩
theorem yg {α:Type} {l:List α} {p:α→Bool} {L:Nat→Int→Option (Except Int Unit)} (h0:∀N,L (N+1) (l.length:Int)=some (.ok ()))
  (h1:∀N i (h:i<l.length),L (N+1) (i:Int)=if p l[i]=true then some (.error (i:Int)) else L N ((i+1:Nat):Int)) (N:Nat) (hN:l.length<N) :
  ((L N 0).bind fun o=>match o with| .ok _=>(some (-1))| .error r=>some r).bind (fun x2:Int=>some (!(decide (x2<0))))=some (l.any p):=by
 obtain⟨v,h2,h3⟩:=GB l p L h0 h1 l.length 0 N qom hN
 rw[show((0:Nat):Int)=0 from rfl] at h2
 rw[h2]
 rw[qzC] at h3
 rcases h3 with⟨a,rfl⟩|⟨a,j,rfl⟩
 ·rw[a];rfl
 ·rw[a]
  show some (!(decide ((j:Int)<0)))=some true
  rw[decide_eq_false qom];rfl
theorem Cu (k:Nat) (hk:2000000≤k) (g1:GGraph→Option Bool) (p:GGraph→Bool) (l:List GGraph) (hl:l.length≤1000000) (h:∀x∈l,g1 x=some (p x)):cX.f g1 k l=some (l.any p):=
 yg (L:=aV.l0 k g1 l) (fun N=>by rw[aV.l0,if_neg qom]) (fun N i hi=>by
  rw[aV.l0,if_pos qom,ac qom,qzd,qzc hi]
  simp only[qzb]
  rw[h _ (qze hi),wrS i qom];rfl) k qom
theorem Eu (k:Nat) (hk:2000000≤k) (g1:GFire→Option Bool) (p:GFire→Bool) (l:List GFire) (hl:l.length≤1000000) (h:∀x∈l,g1 x=some (p x)):dn.f g1 k l=some (l.any p):=
 yg (L:=bf.l0 k g1 l) (fun N=>by rw[bf.l0,if_neg qom]) (fun N i hi=>by
  rw[bf.l0,if_pos qom,ac qom,qzd,qzc hi]
  simp only[qzb]
  rw[h _ (qze hi),wrS i qom];rfl) k qom
theorem Fv (k:Nat) (hk:2000000≤k) (g1:Int→Option Bool) (p:Int→Bool) (l:List Int) (hl:l.length≤1000000) (h:∀x∈l,g1 x=some (p x)):cO.f g1 k l=some (l.any p):=
 yg (L:=bi.l0 k g1 l) (fun N=>by rw[bi.l0,if_neg qom]) (fun N i hi=>by
  rw[bi.l0,if_pos qom,ac qom,qzd,qzc hi]
  simp only[qzb]
  rw[h _ (qze hi),wrS i qom];rfl) k qom
theorem DM (k:Nat) (hk:2000000000000≤k) (e:GEng) (he:e.Events.length≤1000) {now:Int} {seen:Nat} {g:GGraph} (h:iz now seen g):em.f k e g=some (qX e g):=by
 unfold qX
 by_cases h1:g.Seen=(e.Events.length:Int)
 ·by_cases h2:g.Now=aF e.Events
  ·rw[decide_eq_true h1,decide_eq_true h2]
   have hs:seen=e.Events.length:=by have:=h.seen';omega
   have hn:now=aF e.Events:=by rw[←h.now',h2]
   subst hs hn
   exact wg k hk e (tN e.Events he) h
  ·rw[decide_eq_true h1,decide_eq_false h2]
   unfold em.f
   rw[sJ k hk h]
   simp only[qzb,if_true]
   rw[if_neg (by rw[h.full];decide),if_pos h1,tN e.Events he]
   simp only[qzb]
   rw[if_neg h2];rfl
 ·rw[decide_eq_false h1]
  unfold em.f
  rw[sJ k hk h]
  simp only[qzb,if_true]
  rw[if_neg (by rw[h.full];decide),if_neg h1];rfl
theorem xq {o:GOcc} (h:dv o=true):dI.f o=some (fo o)∧∃m,o.Ids.length=m+1∧o.Ids[m]? =some (fo o):=by
 have h1:=((eV o).1 h).2.2.2
 have hl:=cp h1.2
 obtain⟨m,hm⟩:∃m,o.Ids.length=m+1:=⟨o.Ids.length-1,by omega⟩
 have e1:o.Ids[m]? =some (fo o):=by
  unfold fo
  rw[qzU,show o.Ids.length-1=m by omega,qzc qom];rfl
 refine⟨?_,m,hm,e1⟩
 unfold dI.f
 rw[hm,wrP m qom,ac qom,qzd,e1];rfl
theorem pB (k:Nat) (hk:2000000000000≤k) {e:GEng} (h:vn e):iV.f k e=some (lH e):=by
 have hg:=h.graphs.1
 have hev:=h.evs
 have hky:=h.keys
 have hfl:=h.fired.1
 have hrl:=h.rules.1
 unfold iV.f lH
 rw[qh k qom e.Rules qom h.rules.2]
 simp only[qzb]
 cases dO e.Rules
 ·rfl
 simp only[if_true,qzk]
 by_cases h1:e.Graphs.length=e.Rules.length
 rotate_left
 ·rw[if_neg qom,decide_eq_false h1];rfl
 rw[if_pos qom,decide_eq_true h1,Ho k e.Events hev qom]
 simp only[qzb,qzk]
 cases fI e.Events
 ·rfl
 simp only[if_true,qzk]
 by_cases h2:e.Keys.length=4
 rotate_left
 ·rw[if_neg qom,decide_eq_false h2];rfl
 rw[if_pos qom,decide_eq_true h2,Cu k qom (fun y0=>gJ.f k y0 e) (fun g=> !qX e g) e.Graphs qom (fun g hg=>by
  obtain⟨now,seen,hG⟩:=h.graphs.2 g hg
  simp only[gJ.f,DM k hk e qom hG]
  rfl)]
 simp only[qzb,qzk,←List.not_all_eq_any_not]
 cases e.Graphs.all (qX e)
 ·rfl
 simp only[Bool.not_true,qzw,if_false,qzk]
 rw[Fv k qom (fun y0=>gG.f y0) (fun x=> !sb x) e.Keys qom (fun x hx=>by
  simp only[gG.f,fh,qzb,sb,Bool.decide_and])]
 simp only[qzb,qzk,←List.not_all_eq_any_not]
 cases e.Keys.all sb
 ·rfl
 simp only[Bool.not_true,qzw,if_false,qzk]
 rw[Eu k qom (fun y0=>gH.f k y0 e) (fun f=> !oU e f) e.Fired qom (fun f hf=>by
  have e1:bv.f f.Rule 0 (IntKind.wrap .i64 ((e.Rules.length:Int)-1))=some (decide (0≤f.Rule∧f.Rule<(e.Rules.length:Int))):=by
   rw[wr _ qom,fh,Bool.decide_and]
   congr 2
   exact decide_eq_decide.2 qom
  unfold oU
  simp only[gH.f,e1,qzb]
  by_cases h3:0≤f.Rule∧f.Rule<(e.Rules.length:Int)
  rotate_left
  ·rw[decide_eq_false h3];rfl
  rw[decide_eq_true h3,nz f.Occ (by have:=h.fired.2 f hf;unfold Few at this;omega) k (by have:=h.fired.2 f hf;unfold Few at this;omega)]
  simp only[qzb,if_true,qzk]
  cases h4:dv f.Occ
  ·rfl
  simp only[if_true,qzk]
  rw[(xq h4).1];rfl)]
 simp only[qzb,←List.not_all_eq_any_not,Bool.not_not]
theorem qF {α:Type} (l:List α) (p:α→Bool) (L:Nat→Int→Option (Except Bool Unit)) (h0:∀N,L (N+1) (l.length:Int)=some (.ok ()))
  (h1:∀N i (h:i<l.length),L (N+1) (i:Int)=if p l[i]=true then L N ((i+1:Nat):Int) else some (.error false)) (N:Nat) (hN:l.length<N):L N 0=some (if l.all p=true then .ok () else .error false):=by
 have:∀(d i N:Nat),i+d=l.length→d<N→L N (i:Int)=some (if(l.drop i).all p=true then .ok () else .error false):=by
  intro d
  induction d with
  |zero=>
   intro i N hi hN
   obtain⟨N,rfl⟩:=qsc N
   rw[qzn qom,show i=l.length by omega,h0];rfl
  |succ d ih=>
   intro i N hi hN
   obtain⟨N,rfl⟩:=qsc N
   have hlt:i<l.length:=by omega
   rw[h1 N i hlt,qzj hlt,qzN]
   cases hp:p l[i]
   ·rfl
   ·rw[if_pos rfl,ih (i+1) N qom qom,qzk]
 exact this l.length 0 N qom hN
theorem pw (k:Nat) (hk:2000000000000≤k) {e:GEng} (h:vn e):bm.f k e=some (lH e):=by
 have hg:=h.graphs.1
 have hev:=h.evs
 have hky:=h.keys
 have hfl:=h.fired.1
 have hrl:=h.rules.1
 have L0:=qF e.Graphs (qX e) (fun N i=>bm.l0 k e N i) (fun N=>by rw[bm.l0,if_neg qom]) (fun N i hi=>by
  obtain⟨now,seen,hG⟩:=h.graphs.2 _ (qze hi)
  rw[bm.l0,if_pos qom,ac qom,qzd,qzc hi]
  simp only[qzb]
  rw[Ev k hk hG]
  simp only[qzb,if_true]
  rw[ac qom,if_neg (by rw[hG.full];decide),ac qom]
  unfold qX
  by_cases h1:(e.Graphs[i]).Seen=(e.Events.length:Int)
  rotate_left
  ·rw[if_neg h1,decide_eq_false h1];rfl
  rw[if_pos h1,decide_eq_true h1,ac qom,(wG e.Events qom).2]
  simp only[qzb,qzk]
  have e1:BN e.Events=aF e.Events:=by
   have a:=(wG e.Events qom).1
   rw[tN e.Events qom] at a
   exact(pH a).symm
  rw[e1]
  by_cases h2:(e.Graphs[i]).Now=aF e.Events
  rotate_left
  ·rw[if_neg h2,decide_eq_false h2];rfl
  have hs:seen=e.Events.length:=by have:=hG.seen';omega
  subst hs
  rw[if_pos h2,decide_eq_true h2,ac qom,Ga k hk hG]
  simp only[qzb,if_true]
  rw[wrS i qom]) k qom
 have L1:=qF e.Keys sb (fun N i=>bm.l1 k e N i) (fun N=>by rw[bm.l1,if_neg qom]) (fun N i hi=>by
  rw[bm.l1,if_pos qom,ac qom,qzd,qzc hi]
  simp only[qzb]
  have:hU.f e.Keys[i]=some (sb e.Keys[i]):=by
   unfold hU.f sb
   by_cases a:e.Keys[i]<0
   ·rw[if_pos a,decide_eq_false qom]
   ·rw[if_neg a]
    by_cases b:1000<e.Keys[i]
    ·rw[decide_eq_true b,decide_eq_false qom];rfl
    ·rw[decide_eq_false b,decide_eq_true qom];rfl
  rw[this]
  simp only[qzb]
  rw[wrS i qom]) k qom
 have L2:=qF e.Fired (oU e) (fun N i=>bm.l2 k e N i) (fun N=>by rw[bm.l2,if_neg qom]) (fun N i hi=>by
  have hfew:=h.fired.2 _ (qze hi)
  unfold Few at hfew
  rw[bm.l2,if_pos qom,ac qom,qzd,qzc hi]
  simp only[qzb]
  unfold oU
  by_cases h1:(e.Fired[i]).Rule<0
  ·rw[if_pos h1,decide_eq_false qom];rfl
  rw[if_neg h1]
  by_cases h2:(e.Fired[i]).Rule<(e.Rules.length:Int)
  rotate_left
  ·rw[if_neg h2,decide_eq_false qom];rfl
  rw[if_pos h2,decide_eq_true ⟨by omega,h2⟩,rQ _ qom k qom]
  simp only[qzb,qzk]
  cases h4:dv (e.Fired[i]).Occ
  ·rfl
  obtain⟨_,m,hm,hm2⟩:=xq h4
  simp only[if_true,qzk]
  rw[hm,wrP m qom,ac qom,qzd,hm2]
  simp only[qzb,decide_eq_true_eq]
  rw[wrS i qom]) k qom
 unfold bm.f lH
 rw[lX k qom e.Rules qom h.rules.2]
 simp only[qzb]
 cases dO e.Rules
 ·rfl
 simp only[if_true,qzk]
 by_cases h1:e.Graphs.length=e.Rules.length
 rotate_left
 ·rw[if_neg qom,decide_eq_false h1];rfl
 rw[if_pos qom,decide_eq_true h1,BJ k qom e.Events qom]
 simp only[qzb,qzk]
 cases fI e.Events
 ·rfl
 simp only[if_true,qzk]
 by_cases h2:e.Keys.length=4
 rotate_left
 ·rw[if_neg qom,decide_eq_false h2];rfl
 rw[if_pos qom,decide_eq_true h2,L0]
 cases e.Graphs.all (qX e)
 ·rfl
 simp only[if_true,qzb,qzk]
 rw[L1]
 cases e.Keys.all sb
 ·rfl
 simp only[if_true,qzb,qzk]
 rw[L2]
 cases e.Fired.all (oU e) <;> rfl
/-- nearly valid and said to be valid is valid -/
theorem Dk {e:GEng} (h:vn e) (hf:e.Fired.length≤500000+2000 * e.Events.length) (ho:lH e=true):gb e:=by
 unfold lH at ho
 simp only[qzf,decide_eq_true_eq,qzR] at ho
 obtain⟨h1,h2,h3,h4,h5,h6,h7⟩:=ho
 refine⟨h1,h2,h3,fun g hg=>?_,⟨h4,fun x hx=>of_decide_eq_true (h6 x hx)⟩,hf,fun f hf'=>?_⟩
 ·obtain⟨now,seen,hG⟩:=h.graphs.2 g hg
  have:=h5 g hg
  unfold qX at this
  simp only[qzf,decide_eq_true_eq] at this
  have hs:seen=e.Events.length:=by have:=hG.seen';omega
  have hn:now=aF e.Events:=by rw[←hG.now',this.2]
  rw[←hs,←hn];exact hG
 ·have:=h7 f hf'
  unfold oU at this
  simp only[qzf,decide_eq_true_eq] at this
  obtain⟨a,b,c⟩:=this
  refine⟨a,b,?_⟩
  obtain⟨q1,q2,_,q4,q5⟩:=(eV f.Occ).1 b
  obtain⟨_,m,hm,hm2⟩:=xq b
  refine⟨q1,q2,by intro q;rw[q] at hm;simp at hm,fun x hx=>?_⟩
  obtain⟨j,hj,rfl⟩:=List.mem_iff_getElem.1 hx
  have:(f.Occ.Ids[j])≤fo f.Occ:=by
   by_cases hjm:j=m
   ·subst hjm
    rw[qzc hj] at hm2
    exact Int.le_of_eq (pH hm2)
   ·have hmm:m<f.Occ.Ids.length:=by omega
    rw[qzc hmm] at hm2
    have:=(List.pairwise_iff_getElem.1 q5.1) j m hj hmm qom
    have:=pH hm2
    omega
  omega
theorem qv {e:GEng} (h:gb e):vn e:=by
 have:=h.fired.1
 have:=dS h.evs
 have:=fj h.rules
 refine⟨⟨by omega,fun r hr=>(ef h.rules hr).small⟩,⟨by rw[h.len];omega,fun g hg=>⟨_,_,h.graphs g hg⟩⟩,by omega,by rw[h.keys.1];omega,by omega,fun f hf=>?_⟩
 have:=cp ((eV f.Occ).1 (h.fired.2 f hf).2.1).2.2.2.2
 show f.Occ.Ids.length≤1000;omega
end Go.Proofs.YtlbnmldopjadoaaGreat
