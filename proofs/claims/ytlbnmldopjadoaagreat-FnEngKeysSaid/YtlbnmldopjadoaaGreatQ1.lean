/- Plain lemmas about the functions over data; second part. -/
import Derived.Test.YtlbnmldopjadoaaGreatQ0
import Derived.Laws.Strings
namespace Go.Proofs.YtlbnmldopjadoaaGreat
open Go Go.Vm
set_option linter.unusedVariables false
set_option linter.unusedSimpArgs false
def ir (t:Int) (l:List GOcc):Int:=l.foldl (fun t o=>if o.To<t then o.To else t) t
/-- the first time before another one at which something is due, or that one -/
def bX (ns:List GNode) (before:Int):Int:=ns.foldl (fun t n=>ir t n.Due) before
theorem A8:∀(l:List GOcc) (t:Int),ir t l≤t∧∀o∈l,ir t l≤o.To
 |[],t=>⟨ml _,fun o h=>by simp at h⟩
 |x::l,t=>by
  have ih:=A8 l (if x.To<t then x.To else t)
  show ir (if x.To<t then x.To else t) l≤t∧∀o∈x::l,ir (if x.To<t then x.To else t) l≤o.To
  refine⟨Int.le_trans ih.1 (by split <;> omega),fun o ho=>?_⟩
  rcases qzo.1 ho with rfl|ho
  ·exact Int.le_trans ih.1 (by split <;> omega)
  ·exact ih.2 o ho
theorem Bk:∀(l:List GOcc) (t:Int),ir t l=t∨∃o∈l,ir t l=o.To
 |[],t=>.inl rfl
 |x::l,t=>by
  show ir (if x.To<t then x.To else t) l=t∨∃o∈x::l,ir (if x.To<t then x.To else t) l=o.To
  rcases Bk l (if x.To<t then x.To else t) with h|⟨o,h1,h2⟩
  ·split at h
   ·rename_i hx;rw[if_pos hx];exact .inr ⟨x,by simp,h⟩
   ·rename_i hx;rw[if_neg hx];exact .inl h
  ·exact .inr ⟨o,by simp[h1],h2⟩
theorem oB:∀(ns:List GNode) (b:Int),bX ns b≤b∧∀n∈ns,∀o∈n.Due,bX ns b≤o.To
 |[],b=>⟨ml _,fun n h=>by simp at h⟩
 |x::ns,b=>by
  have ih:=oB ns (ir b x.Due)
  have m:=A8 x.Due b
  refine⟨Int.le_trans ih.1 m.1,fun n hn o ho=>?_⟩
  rcases qzo.1 hn with rfl|hn
  ·exact Int.le_trans ih.1 (m.2 o ho)
  ·exact ih.2 n hn o ho
theorem ov:∀(ns:List GNode) (b:Int),bX ns b=b∨∃n∈ns,∃o∈n.Due,bX ns b=o.To
 |[],b=>.inl rfl
 |x::ns,b=>by
  show bX ns (ir b x.Due)=b∨∃n∈x::ns,∃o∈n.Due,bX ns (ir b x.Due)=o.To
  rcases ov ns (ir b x.Due) with h|⟨n,h1,o,h2,h3⟩
  ·rcases Bk x.Due b with q|⟨o,q1,q2⟩
   ·exact .inl (h.trans q)
   ·exact .inr ⟨x,by simp,o,q1,h.trans q2⟩
  ·exact .inr ⟨n,by simp[h1],o,h2,h3⟩
def gP (found:List (List GOcc)):List GOcc:=found.getLast?.getD []
def cK (mode seen before:Int):Nat→List GNode→List GOcc→List GNode×Bool×List GOcc
 |0,ns,out=>(ns,false,out)
 |f+1,ns,out=>if bX ns before<before then
   (if dy (ax mode seen (bX ns before) none ns).1=true then((ax mode seen (bX ns before) none ns).1,true,out++gP (ax mode seen (bX ns before) none ns).2)
    else cK mode seen before f (ax mode seen (bX ns before) none ns).1 (out++gP (ax mode seen (bX ns before) none ns).2))
  else(ns,false,out)
/-- an event: nothing, if there is too much -/
def iv (mode seen:Int) (ns:List GNode) (e:GEv):Option (List GNode×List GOcc):=
 if(cK mode seen e.At 1001 ns []).2.1=true then none
 else if dy (ax mode seen e.At (some e.Sym) (cK mode seen e.At 1001 ns []).1).1=true then none
 else some ((ax mode seen e.At (some e.Sym) (cK mode seen e.At 1001 ns []).1).1,(cK mode seen e.At 1001 ns []).2.2++gP (ax mode seen e.At (some e.Sym) (cK mode seen e.At 1001 ns []).1).2)
theorem B3 {found:List (List GOcc)} (h:1≤found.length):found[found.length-1]? =some (gP found):=by
 unfold gP
 rw[qzS,qzc qom];rfl
theorem lw {t:Int} {mode seen:Int} {ev:Option Int} {es:List GEx} {ns:List GNode} (hR:mK t es ns) (h1:1≤ns.length) (hs:0≤seen∧seen≤23):∃e,gO e∧FO t (exN e) (gP (ax mode seen t ev ns).2):=by
 have pl:=gx mode seen t ev ns
 have hl:=B3 (found:=(ax mode seen t ev ns).2) qom
 obtain⟨e,he,hf⟩:=un (mode:=mode) (ev:=ev) hR hs _ _ hl
 have hi:(ax mode seen t ev ns).2.length-1<ns.length:=by omega
 obtain⟨e',he',hx,_⟩:=hR.1.2 _ _ (qzc hi)
 rw[he] at he';cases he'
 exact⟨e,hx,hf⟩
theorem qO {t:Int} {mode seen:Int} {ev:Option Int} {es:List GEx} {ns:List GNode} (hR:mK t es ns) (h1:1≤ns.length) (hs:0≤seen∧seen≤23) (hf:dy (ax mode seen t ev ns).1=false):(gP (ax mode seen t ev ns).2).length≤40:=by
 have pl:=gx mode seen t ev ns
 have hl:=B3 (found:=(ax mode seen t ev ns).2) qom
 have hi:ns.length-1<ns.length:=by omega
 obtain⟨p1,p2⟩:=nf (mode:=mode) (seen:=seen) (t:=t) (ev:=ev) hR.1 (qzc hi)
 rw[pl.2,p2] at hl
 have hl:=pQ hl
 have:=AY hf _ (qzI p1)
 have h0:=(hR.2.2 _ (qze hi)).2.2.2.2.2.1
 have k5:=(kg (mode:=mode) (seen:=seen) (t:=t) (ev:=ev) (found:=(ax mode seen t ev ns).2) (n:=ns[ns.length-1])).2.2.2.2
 rw[←hl]
 have this:(aw mode seen t ev (ax mode seen t ev ns).2 ns[ns.length-1]).1.Many+((aw mode seen t ev (ax mode seen t ev ns).2 ns[ns.length-1]).2.length:Int)≤40:=this
 rw[k5] at this
 omega
/-- all that is due before an event -/
theorem oQ {mode seen before:Int} {es:List GEx} (hs:0≤seen∧seen≤23):∀(f:Nat) (ns:List GNode) (out:List GOcc) (T:Int),gj T es ns→T<before→(before-T).toNat≤f→Ids out→out.length+40 * f≤1000000→
  (cK mode seen before f ns out).2.1=false→∃T',T≤T'∧T'<before∧gj T' es (cK mode seen before f ns out).1∧(∀n∈(cK mode seen before f ns out).1,∀o∈n.Due,before≤o.To)∧Ids (cK mode seen before f ns out).2.2∧(cK mode seen before f ns out).2.2.length≤1000000
 |0,ns,out,T,h,hT,hf,_,_,_=>by omega
 |f+1,ns,out,T,h,hT,hf,ho,hol,hno=>by
  have nl:=oB ns before
  unfold cK at hno⊢
  by_cases hlt:bX ns before<before
  ·rw[if_pos hlt] at hno⊢
   by_cases hfu:dy (ax mode seen (bX ns before) none ns).1=true
   ·rw[if_pos hfu] at hno;cases hno
   ·rw[if_neg hfu] at hno⊢
    have hT':T<bX ns before:=by
     rcases ov ns before with q|⟨n,q1,o,q2,q3⟩
     ·omega
     ·rw[q3];exact((h.2.2 n q1).2.2.2.1 o q2).1
    have hfu':dy (ax mode seen (bX ns before) none ns).1=false:=by simpa using hfu
    have hR:=h.ready (t:=bX ns before) qom
    have pi:=mV (mode:=mode) (ev:=none) h (Int.le_of_lt hT') nl.2 hs hfu'
    obtain⟨e,_,lf⟩:=lw (mode:=mode) (ev:=none) hR h.2.1.1 hs
    have ll:=qO (mode:=mode) (ev:=none) hR h.2.1.1 hs hfu'
    obtain⟨T',a,b,c⟩:=oQ hs f _ (out++gP (ax mode seen (bX ns before) none ns).2) (bX ns before) pi hlt qom
     (fun o hh=>by rcases List.mem_append.1 hh with q|q;exact ho o q;exact lf.2.1 o q) (by rw[qzg];omega) hno
    exact⟨T',by omega,b,c⟩
  ·rw[if_neg hlt] at hno⊢
   exact⟨T,ml _,hT,h,fun n hn o hh=>by have:=nl.2 n hn o hh;omega,ho,show out.length≤1000000 by omega⟩
theorem GD {mode seen:Int} {es:List GEx} {ns ns':List GNode} {e:GEv} {out:List GOcc} {T:Int} (h:gj T es ns) (hT:0≤T∧T<e.At∧e.At≤1000) (hs:0≤seen∧seen≤23) (hst:iv mode seen ns e=some (ns',out)) :
  gj e.At es ns'∧Ids out∧out.length≤1000040:=by
 unfold iv at hst
 split at hst
 ·cases hst
 split at hst
 ·cases hst
 rename_i h1 h2
 cases hst
 obtain⟨T',a,b,c,d,f,g⟩:=oQ (mode:=mode) (before:=e.At) hs 1001 ns [] T h hT.2.1 qom (fun o hh=>by simp at hh) (by simp) (by simpa using h1)
 have h2':dy (ax mode seen e.At (some e.Sym) (cK mode seen e.At 1001 ns []).1).1=false:=by simpa using h2
 have hR:=c.ready (t:=e.At) qom
 obtain⟨x,_,lf⟩:=lw (mode:=mode) (ev:=some e.Sym) hR c.2.1.1 hs
 have ll:=qO (mode:=mode) (ev:=some e.Sym) hR c.2.1.1 hs h2'
 refine⟨mV c qom d hs h2',fun o hh=>?_,by rw[qzg];omega⟩
 rcases List.mem_append.1 hh with q|q
 ·exact f o q
 ·exact lf.2.1 o q
theorem wH {mode seen t:Int} {ev:Option Int} {es:List GEx} {nodes:List GNode} (hR:mK t es nodes) (hs:0≤seen∧seen≤23) (full0:Bool) (L:Nat→List GNode→Bool→List (List GOcc)→Int→Option (List (List GOcc)×List GNode×Bool))
  (hend:∀N ns full found,L (N+1) ns full found (nodes.length:Int)=some (found,ns,full))
  (hstep:∀(N i:Nat) (ns:List GNode) (full:Bool) (found:List (List GOcc)) (n:GNode) (e:GEx),i<nodes.length→ns.length=nodes.length→ns[i]? =some n→gO e→lK es i n e→lB t n→found.length=i→jw t es found→
   L (N+1) ns full found (i:Int)=L N (ns.set i (eP (aw mode seen t ev found n))) (full||decide (40<(eP (aw mode seen t ev found n)).Many)) (found++[(aw mode seen t ev found n).2]) ((i+1:Nat):Int)) :
  ∀(d N i:Nat),i+d=nodes.length→d<N→L N ((fx mode seen t ev nodes i).1++nodes.drop i) (full0||dy (fx mode seen t ev nodes i).1) (fx mode seen t ev nodes i).2 (i:Int)=some ((ax mode seen t ev nodes).2,(ax mode seen t ev nodes).1,full0||dy (ax mode seen t ev nodes).1):=by
 intro d
 induction d with
 |zero=>
  intro N i hi hN
  obtain⟨N,rfl⟩:=qsc N
  have:i=nodes.length:=by omega
  subst this
  rw[hend,oL,List.drop_length,qzT]
 |succ d ih=>
  intro N i hi hN
  obtain⟨N,rfl⟩:=qsc N
  have hlt:i<nodes.length:=by omega
  have hl:=j9 (mode:=mode) (seen:=seen) (t:=t) (ev:=ev) (ns:=nodes) (i:=i) qom
  obtain⟨e,he,hx,hr⟩:=hR.1.2 i nodes[i] (qzc hlt)
  have hn:((fx mode seen t ev nodes i).1++nodes.drop i)[i]? =some nodes[i]:=by
   rw[qzu qom,hl.1,qzV,qzj hlt];rfl
  rw[hstep N i _ _ _ nodes[i] e hlt (by rw[qzg,qzU,hl.1];omega) hn hx hr (hR.2.2 _ (qze _)) hl.2 (nH hR hs qom)]
  have:=ih N (i+1) qom qom
  rw[lD hlt] at this
  simp only[nR] at this
  rw[←this,qzj hlt,List.set_append_right _ _ qom,hl.1,qzV,List.set_cons_zero,qzl,List.singleton_append]
  congr 1
  unfold dy
  rw[List.any_append,Bool.or_assoc]
  simp
theorem vy {found:List (List GOcc)} {m:Nat} (h:found.length=m) (h1:1≤m) (h2:m≤1000) :
  (req ((0:Int)≤(IntKind.wrap .i64 (((found.length:Nat):Int)-1))) (req ((IntKind.wrap .i64 (((found.length:Nat):Int)-1))<(found.length:Nat)) (found[(IntKind.wrap .i64 (((found.length:Nat):Int)-1)).toNat]?)))=some (gP found):=by
 rw[wr _ qom,ac qom,ac qom]
 unfold gP
 rw[qzS,show(((found.length:Nat):Int)-1).toNat=found.length-1 by omega,qzc qom]
 rfl
theorem uY {α β:Type} {c:Prop} [Decidable c] {x:Option α} {f:α→Option β}:(req c x).bind f=req c (x.bind f):=by
 unfold req;split <;> rfl
theorem n2_eq (k:Nat) (hk:1000000000000≤k) (g:GGraph) (t:Int) (es:List GEx) (hR:mK t es g.Nodes) (h1:1≤g.Nodes.length) (hs:0≤g.Seen∧g.Seen≤23) (ht:0≤t∧t≤100000) :
  aj.f k g t=some (gP (ax g.Mode g.Seen t none g.Nodes).2,⟨g.Mode,(ax g.Mode g.Seen t none g.Nodes).1,g.Seen,g.Now,g.Full||dy (ax g.Mode g.Seen t none g.Nodes).1⟩):=by
 have h12:=hR.2.1
 have:=wH (mode:=g.Mode) (ev:=none) hR hs g.Full (aj.l1 k g t) (fun N ns full found=>by rw[aj.l1,if_neg qom])
  (fun N i ns full found n e hi hl hn hx hr hS hf hF=>H1 k hk g t N i ns full found n e es hi qom hl hn hx hr hS hf hF hs ht) g.Nodes.length k 0 qom qom
 simp only[fx,vm,List.foldl_nil,qzB,qzO,dy,List.any_nil,Bool.or_false] at this
 unfold aj.f
 rw[show((0:Nat):Int)=0 from rfl] at this
 rw[this]
 simp only[qzb]
 have hl:=gx g.Mode g.Seen t none g.Nodes
 have q:=congrArg (Option.bind · fun x=>some (x,(⟨g.Mode,(ax g.Mode g.Seen t none g.Nodes).1,g.Seen,g.Now,g.Full||dy (ax g.Mode g.Seen t none g.Nodes).1⟩:GGraph))) (vy hl.2 h1 qom)
 simp only[uY,qzb] at q
 exact q
theorem ev_eq (k:Nat) (hk:1000000000000≤k) (g:GGraph) (t:Int) (x:GEv) (es:List GEx) (hR:mK t es g.Nodes) (h1:1≤g.Nodes.length) (hs:0≤g.Seen∧g.Seen≤23) (ht:0≤t∧t≤100000) :
  am.f k g t x=some (gP (ax g.Mode g.Seen t (some x.Sym) g.Nodes).2,⟨g.Mode,(ax g.Mode g.Seen t (some x.Sym) g.Nodes).1,g.Seen,g.Now,g.Full||dy (ax g.Mode g.Seen t (some x.Sym) g.Nodes).1⟩,x):=by
 have h12:=hR.2.1
 have:=wH (mode:=g.Mode) (ev:=some x.Sym) hR hs g.Full (am.l1 k g t x) (fun N ns full found=>by rw[am.l1,if_neg qom])
  (fun N i ns full found n e hi hl hn hx hr hS hf hF=>HO k hk g t x N i ns full found n e es hi qom hl hn hx hr hS hf hF hs ht) g.Nodes.length k 0 qom qom
 simp only[fx,vm,List.foldl_nil,qzB,qzO,dy,List.any_nil,Bool.or_false] at this
 unfold am.f
 rw[show((0:Nat):Int)=0 from rfl] at this
 rw[this]
 simp only[qzb]
 have hl:=gx g.Mode g.Seen t (some x.Sym) g.Nodes
 have q:=congrArg (Option.bind · fun y=>some (y,(⟨g.Mode,(ax g.Mode g.Seen t (some x.Sym) g.Nodes).1,g.Seen,g.Now,g.Full||dy (ax g.Mode g.Seen t (some x.Sym) g.Nodes).1⟩:GGraph),x)) (vy hl.2 h1 qom)
 simp only[uY,qzb] at q
 exact q
theorem I4 (k:Nat) (hk:1000000000000≤k) (n:GNode) (t:Int) (hl:n.Due.length≤1000):aY.l3 k n k t 0=some (ir t n.Due):=by
 have:=cD n.Due (fun s o=>some (if o.To<s then o.To else s)) (aY.l3 k n) (fun s o=>if o.To<s then o.To else s) (fun _ _=>True)
  (fun N s=>by rw[aY.l3,if_neg qom])
  (fun N s i h=>by
   rw[aY.l3,if_pos qom,ac qom,qzd,qzc h]
   simp only[qzb]
   rw[wrS i qom]
   split <;> rfl)
  (fun i s h _=>⟨rfl,trivial⟩) k t qom trivial
 exact this.1
theorem Im (k:Nat) (hk:1000000000000≤k) (g:GGraph) (b:Int) (hg:g.Nodes.length≤1000) (hd:∀n∈g.Nodes,n.Due.length≤1000):aY.f k g b=some (bX g.Nodes b,decide (bX g.Nodes b<b),g):=by
 have:=cD g.Nodes (fun s n=>aY.l3 k n k s 0) (aY.l2 k g) (fun s n=>ir s n.Due) (fun _ _=>True)
  (fun N s=>by rw[aY.l2,if_neg qom])
  (fun N s i h=>by
   rw[aY.l2,if_pos qom,ac qom,ac qom,qzd,qzc h]
   simp only[qzb]
   rw[wrS i qom])
  (fun i s h _=>⟨I4 k hk _ s (hd _ (qze h)),trivial⟩) k b qom trivial
 unfold aY.f
 rw[this.1];rfl
theorem gj.due {T:Int} {es:List GEx} {ns:List GNode} (h:gj T es ns):∀n∈ns,n.Due.length≤1000:=fun n hn=>by
 have:=(h.2.2 n hn).2.2.2.2.2.2.2.2
 have:=lq h n 0
 omega
theorem C0 (k:Nat) (hk:1000000000000≤k) (e:GEv) (mode seen now:Int) (es:List GEx) (hs:0≤seen∧seen≤23) (he:e.At≤1000):∀(f N:Nat) (ns:List GNode) (out:List GOcc) (T:Int),gj T es ns→0≤T→T<e.At→(e.At-T).toNat≤f→f+1<N→out.length+40 * f≤1000000→
  cf.l0 k e N mode ns seen now false out=some (mode,(cK mode seen e.At f ns out).1,seen,now,(cK mode seen e.At f ns out).2.1,(cK mode seen e.At f ns out).2.2)
 |0,_,_,_,_,_,_,_,_,_,_=>by omega
 |f+1,N,ns,out,T,h,hT0,hT,hf,hN,hol=>by
  obtain⟨N,rfl⟩:=qsc N
  have nl:=oB ns e.At
  rw[cf.l0,if_neg (by decide),Im k hk ⟨mode,ns,seen,now,false⟩ e.At (show ns.length≤1000 by have:=h.2.1.2;omega) h.due]
  simp only[qzb]
  unfold cK
  by_cases hlt:bX ns e.At<e.At
  ·rw[if_pos hlt,if_pos (by simpa using hlt)]
   have hT':T<bX ns e.At:=by
    rcases ov ns e.At with q|⟨n,q1,o,q2,q3⟩
    ·omega
    ·rw[q3];exact((h.2.2 n q1).2.2.2.1 o q2).1
   have hR:=h.ready (t:=bX ns e.At) qom
   rw[n2_eq k hk ⟨mode,ns,seen,now,false⟩ (bX ns e.At) es hR h.2.1.1 hs qom]
   simp only[qzb,oc]
   obtain⟨x,hx,lf⟩:=lw (mode:=mode) (ev:=none) hR h.2.1.1 hs
   have ls:=lf.small hx.2
   rw[ac qom]
   by_cases hfu:dy (ax mode seen (bX ns e.At) none ns).1=true
   ·rw[if_pos hfu,hfu]
    obtain⟨N,rfl⟩:=qsc N
    rw[cf.l0,if_pos rfl]
   ·have hfu':dy (ax mode seen (bX ns e.At) none ns).1=false:=by simpa using hfu
    rw[if_neg hfu,hfu']
    have ll:=qO (mode:=mode) (ev:=none) hR h.2.1.1 hs hfu'
    exact C0 k hk e mode seen now es hs he f N _ _ (bX ns e.At) (mV h (Int.le_of_lt hT') nl.2 hs hfu') qom hlt qom qom (by rw[qzg];omega)
  ·rw[if_neg hlt,if_neg (by simpa using hlt)]
theorem HK (k:Nat) (hk:1000000000000≤k) (e:GEv) (g:GGraph) (es:List GEx) (T:Int) (h:gj T es g.Nodes) (hT:0≤T∧T<e.At∧e.At≤1000) (hs:0≤g.Seen∧g.Seen≤23) (hf:g.Full=false) :
  cf.f k g e=some (match iv g.Mode g.Seen g.Nodes e with|none=>([],⟨g.Mode,[],g.Seen+1,e.At,true⟩)|some r=>(r.2,⟨g.Mode,r.1,g.Seen+1,e.At,false⟩)):=by
 unfold cf.f
 rw[hf,C0 k hk e g.Mode g.Seen g.Now es hs hT.2.2 1001 k g.Nodes [] T h hT.1 hT.2.1 qom qom (by simp)]
 simp only[qzb]
 unfold iv
 rw[wr (g.Seen+1) qom]
 by_cases h1:(cK g.Mode g.Seen e.At 1001 g.Nodes []).2.1=true
 ·rw[if_pos h1,if_pos h1]
 ·rw[if_neg h1,if_neg h1]
  obtain⟨T',a,b,c,d,f,gg⟩:=oQ (mode:=g.Mode) (before:=e.At) hs 1001 g.Nodes [] T h hT.2.1 qom (fun o hh=>by simp at hh) (by simp) (by simpa using h1)
  have hR:=c.ready (t:=e.At) qom
  rw[ev_eq k hk ⟨g.Mode,(cK g.Mode g.Seen e.At 1001 g.Nodes []).1,g.Seen,g.Now,false⟩ e.At e es hR c.2.1.1 hs qom]
  simp only[qzb,oc]
  obtain⟨x,hx,lf⟩:=lw (mode:=g.Mode) (ev:=some e.Sym) hR c.2.1.1 hs
  have ls:=lf.small hx.2
  rw[ac qom]
  by_cases h2:dy (ax g.Mode g.Seen e.At (some e.Sym) (cK g.Mode g.Seen e.At 1001 g.Nodes []).1).1=true
  ·rw[if_pos h2,if_pos h2,wr (g.Seen+1) qom]
  ·rw[if_neg h2,if_neg h2,wr (g.Seen+1) qom]
def Fresh (n:GNode):Prop:=n.Pair=⟨[],[]⟩∧n.Span=⟨[],[]⟩∧n.Due=[]∧n.Many=0
theorem rU (m n:GNode):pj m n=true↔m.Kind=n.Kind∧m.Sym=n.Sym∧m.N=n.N∧m.Kids=n.Kids:=by
 unfold pj;simp
theorem Bq {a b:GEx} (h1:a.Kind=b.Kind) (h2:a.Sym=b.Sym) (h3:a.N=b.N) (h4:a.Kids=b.Kids):a=b:=by
 cases a;cases b;simp only at h1 h2 h3 h4;rw[h1,h2,h3,h4]
theorem tQ {α:Type} {l m:List α} {i:Nat} {x:α} (h:l[i]? =some x):(l++m)[i]? =some x:=by
 rw[qzF (List.getElem?_eq_some_iff.1 h).1];exact h
theorem gO.kid {e x:GEx} (h:gO e) (hx:x∈e.Kids):gO x:=by
 refine⟨(cT h.1).2 x hx,?_⟩
 have:=eR hx
 have:=h.2
 rw[dI] at this
 omega
def GC (es:List GEx) (ns:List GNode) (k:Nat) (r:List GNode) (ok:List GEx→Prop):Prop:=∃es' nx,r=ns++nx∧Rep (es++es') (ns++nx)∧nx.length≤k∧(∀n∈nx,Fresh n)∧ok (es++es')
theorem HG {xs:List GEx} (H:∀x∈xs,∀es ns,Rep es ns→GC es ns (exN x) (fY x ns).2 fun es=>∃q:Nat,(fY x ns).1=(q:Int)∧es[q]? =some x) :
  ∀es ns,Rep es ns→GC es ns (em xs) (dL xs ns).2 fun es=>(dL xs ns).1.length=xs.length∧∀(j:Nat) (x:GEx),xs[j]? =some x→∃q:Nat,(dL xs ns).1[j]? =some (q:Int)∧es[q]? =some x:=by
 induction xs with
 |nil=>
  intro es ns h
  rw[ta]
  exact⟨[],[],by simp,by simpa using h,by simp,by simp,rfl,fun j x hj=>by simp at hj⟩
 |cons x xs ih=>
  intro es ns h
  obtain⟨e1,n1,a1,a2,a3,a4,q,a5,a6⟩:=H x (by simp) es ns h
  obtain⟨e2,n2,b1,b2,b3,b4,b5,b6⟩:=ih (fun y hy=>H y (by simp[hy])) _ _ a2
  rw[qW,dB]
  simp only
  rw[a1]
  refine⟨e1++e2,n1++n2,by rw[b1,qzl],by rw[←qzl,←qzl];exact b2,by rw[qzg];omega,fun n hn=>(List.mem_append.1 hn).elim (a4 n) (b4 n),by simp[b5],fun j y hj=>?_⟩
  rw[←qzl]
  cases j with
  |zero=>
   simp only[qzs,qzh] at hj
   subst hj
   exact⟨q,by rw[qzs,a5],tQ a6⟩
  |succ j=>
   rw[yz] at hj⊢
   exact b6 j y hj
theorem CT:∀x:GEx,gO x→∀es ns,Rep es ns→GC es ns (exN x) (fY x ns).2 fun es=>∃q:Nat,(fY x ns).1=(q:Int)∧es[q]? =some x:=by
 refine jE fun x ih hx es ns h=>?_
 obtain⟨e1,n1,a1,a2,a3,a4,a5,a6⟩:=HG (fun y hy=>ih y hy (hx.kid hy)) es ns h
 rw[xk]
 unfold rQ
 rw[a1]
 cases hfi:(ns++n1).findIdx? fun m=>pj m (kL x.Kind x.Sym x.N (dL x.Kids ns).1) with
 |some i=>
  simp only
  rw[List.findIdx?_eq_some_iff_getElem] at hfi
  obtain⟨hi,hk,_⟩:=hfi
  obtain⟨k1,k2,k3,k4⟩:=(rU _ _).1 hk
  obtain⟨e,he,_,hr⟩:=a2.2 i _ (qzc hi)
  have:e=x:=by
   refine Bq (hr.1.symm.trans k1) (hr.2.1.symm.trans k2) (hr.2.2.1.symm.trans k3) (List.ext_getElem? fun j=>?_)
   have hlen:e.Kids.length=x.Kids.length:=by rw[←hr.2.2.2.1,k4];exact a5
   rcases qzM j e.Kids.length with hj|hj
   ·obtain⟨q,_,q2,q3⟩:=hr.2.2.2.2 j hj
    obtain⟨q',p1,p2⟩:=a6 j x.Kids[j] (qzc qom)
    rw[k4] at q2
    have hq:some (q':Int)=some (q:Int):=p1.symm.trans q2
    have:q'=q:=Int.ofNat.inj (pQ hq)
    subst this
    rw[←q3,p2,qzc qom]
   ·rw[qzR hj,qzR qom]
  subst this
  exact⟨e1,n1,rfl,a2,by rw[dI];omega,a4,i,rfl,he⟩
 |none=>
  simp only
  refine⟨e1++[x],n1++[kL x.Kind x.Sym x.N (dL x.Kids ns).1],by rw[qzl],?_,by rw[dI,qzg,qzq];omega,fun n hn=>?_,(ns++n1).length,rfl,?_⟩
  ·rw[←qzl,←qzl]
   refine⟨by have:=a2.1;simp only[qzg,qzq] at this⊢;omega,fun i n hn=>?_⟩
   rcases qzM i (ns++n1).length with hlt|hge
   ·rw[qzF hlt] at hn
    obtain⟨e,he,hf,hr⟩:=a2.2 i n hn
    refine⟨e,tQ he,hf,hr.1,hr.2.1,hr.2.2.1,hr.2.2.2.1,fun j hj=>?_⟩
    obtain⟨q,q1,q2,q3⟩:=hr.2.2.2.2 j hj
    refine⟨q,q1,q2,?_⟩
    rw[qzF (by rw[a2.1];omega)];exact q3
   ·rw[qzu hge] at hn
    have:i=(ns++n1).length:=by
     have:=(List.getElem?_eq_some_iff.1 hn).1
     simp only[qzq] at this;omega
    subst this
    rw[qzV,qzs] at hn
    cases hn
    refine⟨x,?_,hx,rfl,rfl,rfl,a5,fun j hj=>?_⟩
    ·rw[←a2.1,qzu (qzi _),qzV];rfl
    ·obtain⟨q,p1,p2⟩:=a6 j x.Kids[j] (qzc hj)
     have hq:q<(es++e1).length:=(List.getElem?_eq_some_iff.1 p2).1
     refine⟨q,by rw[←a2.1];exact hq,p1,?_⟩
     rw[qzF hq,p2,qzc hj]
  ·rcases List.mem_append.1 hn with q|q
   ·exact a4 n q
   ·rw[List.mem_singleton.1 q];exact⟨rfl,rfl,rfl,rfl⟩
  ·rw[←qzl,←a2.1,qzu (qzi _),qzV];rfl
/-- the parts of an expression, before anything has happened -/
theorem yb:Rep [] []:=⟨rfl,fun i n h=>by simp at h⟩
theorem EO {x:GEx} (hx:gO x):∃es,gj 0 es (fY x []).2∧∃q:Nat,es[q]? =some x∧(fY x []).1=q:=by
 obtain⟨es,nx,a1,a2,a3,a4,q,a5,a6⟩:=CT x hx [] [] yb
 simp only[qzO] at a1 a2 a6
 rw[a1]
 have hq:=(List.getElem?_eq_some_iff.1 a6).1
 have:=hx.2
 refine⟨es,⟨a2,⟨by rw[←a2.1];omega,by omega⟩,fun n hn=>?_⟩,q,a6,a5⟩
 obtain⟨f1,f2,f3,f4⟩:=a4 n hn
 have g0:jT []:=⟨by simp[Asc],fun o h=>by simp at h⟩
 have A0:All (fun o=>o.To≤(0:Int)) []:=fun o h=>by simp at h
 have mk:∀j,0≤jI nx n j:=fun j=>by
  unfold jI
  cases hq:nx[(n.Kids.getD j 0).toNat]? with
  |none=>simp
  |some m=>have:=(a4 m (qzI hq)).2.2.2;simp[this]
 refine⟨⟨by rw[f1,f2,f3];exact⟨g0,g0,g0,g0,g0⟩,by rw[f1,f2];exact⟨A0,A0,A0,A0⟩⟩,by rw[f4];omega,fun _=>f3,by rw[f3];simp,?_⟩
 rw[f1,f2,f3]
 exact⟨by simpa using mk 0,by simpa using mk 1,by simpa using mk 0,by split;exact(by simpa using mk 1);exact(by simpa using mk 2),by simpa using mk 0⟩
def Kids3 (ns:List GNode):Prop:=∀n∈ns,n.Kids.length≤3
theorem Rep.kids3 {es:List GEx} {ns:List GNode} (h:Rep es ns):Kids3 ns:=fun n hn=>by
 obtain⟨i,hi,rfl⟩:=List.mem_iff_getElem.1 hn
 obtain⟨e,_,hx,hr⟩:=h.2 i _ (qzc hi)
 rw[hr.2.2.2.1]
 rcases gZ (cT hx.1).1 with⟨_,hl⟩|⟨_,hl⟩|⟨_,hl⟩|⟨_,hl⟩|⟨_,hl⟩|⟨_,hl⟩|⟨_,hl⟩ <;> omega
theorem Hr (mode:Int):eJ.f mode=some (decide (0≤mode)&&decide (mode≤4)):=by
 unfold eJ.f
 rw[fi];rfl
/-- made of events seen so far -/
def eH (s:Int) (o:GOcc):Prop:=1≤o.From∧o.From≤o.To∧o.Ids≠[]∧∀x∈o.Ids,x<s
theorem eH.mono {s s':Int} (h:s≤s') {o:GOcc} (ho:eH s o):eH s' o:=⟨ho.1,ho.2.1,ho.2.2.1,fun x hx=>by have:=ho.2.2.2 x hx;omega⟩
theorem DE (s:Int):io (eH s):=fun a b ha hb=>by
 obtain⟨a1,a2,a3,a4⟩:=ha
 obtain⟨b1,b2,b3,b4⟩:=hb
 refine⟨?_,?_,?_,fun x hx=>?_⟩
 ·show 1≤min a.From b.From;omega
 ·show min a.From b.From≤max a.To b.To;omega
 ·intro e
  obtain⟨z,hz⟩:=List.exists_mem_of_ne_nil _ a3
  have:z∈dJ a.Ids b.Ids:=eN.2 (.inl hz)
  rw[show dJ a.Ids b.Ids=[] from e] at this
  simp at this
 ·rcases eN.1 (show x∈dJ a.Ids b.Ids from hx) with h|h
  ·exact a4 x h
  ·exact b4 x h
theorem Ev {s n:Int} (hn:0≤n) {o:GOcc} (h:eH s o):eH s (jC n o):=⟨h.1,by show o.From≤o.To+n;have:=h.2.1;omega,h.2.2.1,h.2.2.2⟩
/-- all lists of a part -/
def ku (Q:GOcc→Prop) (n:GNode):Prop:=All Q n.Pair.Left∧All Q n.Pair.Right∧All Q n.Span.Left∧All Q n.Span.Mid∧All Q n.Due
theorem HW {Q:GOcc→Prop} {found:List (List GOcc)} (h:∀l∈found,All Q l) (n:GNode) (j:Nat):All Q (ap found n j):=by
 unfold ap
 rw[qzt]
 cases hf:found[(n.Kids.getD j 0).toNat]? with
 |none=>exact All.nil
 |some l=>exact h l (qzI hf)
theorem F8 {Q:GOcc→Prop} (hj:io Q) {mode seen t:Int} {ev:Option Int} {found:List (List GOcc)} {n:GNode} (hb:ev≠none→Q ⟨t,t,[seen]⟩) (hl:∀o,Q o→Q (jC n.N o))
  (hn:ku Q n) (hf:∀l∈found,All Q l):ku Q (aw mode seen t ev found n).1∧All Q (aw mode seen t ev found n).2:=by
 obtain⟨h1,h2,h3,h4,h5⟩:=hn
 have k:=HW hf n
 unfold aw
 split
 ·refine⟨⟨h1,h2,h3,h4,h5⟩,?_⟩
  split
  ·rename_i he
   intro x hx
   rw[List.mem_singleton.1 hx]
   exact hb (by rw[he];simp)
  ·exact All.nil
 split
 ·exact⟨⟨h1,h2,h3,h4,h5⟩,(k 0).merge (k 1)⟩
 split
 ·have:=EV hj mode (n.Pair.Left,n.Pair.Right) _ _ h1 h2 (k 0) (k 1)
  exact⟨⟨this.1,this.2.1,h3,h4,h5⟩,this.2.2⟩
 split
 ·have:=Fh hj mode (n.Pair.Left,n.Pair.Right) _ _ h1 h2 (k 0) (k 1)
  exact⟨⟨this.1,h2,h3,h4,h5⟩,this.2.2⟩
 split
 ·have:=FF hj mode (n.Span.Left,n.Span.Mid) _ _ _ h3 h4 (k 0) (k 1) (k 2)
  exact⟨⟨h1,h2,this.1,this.2.1,h5⟩,this.2.2⟩
 split
 ·have:=DQ hj mode (n.Span.Left,n.Span.Mid) _ _ _ h3 h4 (k 0) (k 1) (k 2)
  exact⟨⟨h1,h2,this.1,this.2.1,h5⟩,this.2.2⟩
 ·refine⟨⟨h1,h2,h3,h4,?_⟩,h5.filter _⟩
  have:∀(l acc:List GOcc),All Q l→All Q acc→All Q (l.foldl (fun s o=>cJ s (jC n.N o)) acc):=by
   intro l
   induction l with
   |nil=>intro acc _ h;exact h
   |cons o l ih=>intro acc ho ha;exact ih _ (fun x hx=>ho x (by simp[hx])) (ha.put (hl o (ho o (by simp))))
  exact this _ _ (k 0) (h5.filter _)
theorem Gt {Q:GOcc→Prop} {r:GNode×List GOcc} (h:ku Q r.1):ku Q (eP r):=h
theorem zm {Q:GOcc→Prop} (hj:io Q) {mode seen t:Int} {ev:Option Int} {ns:List GNode} (hb:ev≠none→Q ⟨t,t,[seen]⟩) (hl:∀n∈ns,∀o,Q o→Q (jC n.N o)) (hn:∀n∈ns,ku Q n) :
  (∀n∈(ax mode seen t ev ns).1,ku Q n)∧∀l∈(ax mode seen t ev ns).2,All Q l:=by
 unfold ax
 refine jW (fun s:List GNode×List (List GOcc)=>(∀n∈s.1,ku Q n)∧∀l∈s.2,All Q l) _ ns ([],[]) (fun s n hm hs=>?_) ⟨fun n h=>by simp at h,fun l h=>by simp at h⟩
 have:=F8 hj (mode:=mode) (seen:=seen) (t:=t) (ev:=ev) (found:=s.2) (n:=n) hb (hl n hm) (hn n hm) hs.2
 refine⟨fun x hx=>?_,fun l hx=>?_⟩
 ·rcases List.mem_append.1 hx with h|h
  ·exact hs.1 x h
  ·rw[List.mem_singleton.1 h];exact Gt this.1
 ·rcases List.mem_append.1 hx with h|h
  ·exact hs.2 l h
  ·rw[List.mem_singleton.1 h];exact this.2
def oO (Q:GOcc→Prop) (ns:List GNode):Prop:=∀n∈ns,∀o,Q o→Q (jC n.N o)
theorem H2 {mode seen t:Int} {ev:Option Int} {ns:List GNode}:∀x∈(ax mode seen t ev ns).1,∃n∈ns,x.N=n.N:=by
 unfold ax
 refine jW (fun s:List GNode×List (List GOcc)=>∀x∈s.1,∃n∈ns,x.N=n.N) _ ns ([],[]) (fun s n hm hs x hx=>?_) (fun n h=>by simp at h)
 rcases List.mem_append.1 hx with h|h
 ·exact hs x h
 ·rw[List.mem_singleton.1 h]
  exact⟨n,hm,kg.2.2.1⟩
theorem oO.point {Q:GOcc→Prop} {mode seen t:Int} {ev:Option Int} {ns:List GNode} (h:oO Q ns):oO Q (ax mode seen t ev ns).1:=fun x hx o ho=>by
 obtain⟨n,hn,e⟩:=H2 x hx
 rw[e];exact h n hn o ho
theorem vz {Q:GOcc→Prop} {found:List (List GOcc)} (h:∀l∈found,All Q l):All Q (gP found):=by
 unfold gP
 cases hf:found.getLast? with
 |none=>exact All.nil
 |some l=>exact h l (Bf hf)
theorem All.app {Q:GOcc→Prop} {l m:List GOcc} (h:All Q l) (hm:All Q m):All Q (l++m):=fun x hx=>(List.mem_append.1 hx).elim (h x) (hm x)
theorem BW {Q:GOcc→Prop} (hj:io Q) {mode seen before:Int}:∀(f:Nat) (ns:List GNode) (out:List GOcc),oO Q ns→(∀n∈ns,ku Q n)→All Q out→
  oO Q (cK mode seen before f ns out).1∧(∀n∈(cK mode seen before f ns out).1,ku Q n)∧All Q (cK mode seen before f ns out).2.2
 |0,ns,out,h1,h2,h3=>⟨h1,h2,h3⟩
 |f+1,ns,out,h1,h2,h3=>by
  unfold cK
  have hp:=zm hj (mode:=mode) (seen:=seen) (t:=bX ns before) (ev:=none) (fun h=>absurd rfl h) h1 h2
  split
  ·split
   ·exact⟨h1.point,hp.1,h3.app (vz hp.2)⟩
   ·exact BW hj f _ _ h1.point hp.1 (h3.app (vz hp.2))
  ·exact⟨h1,h2,h3⟩
theorem Gx {Q:GOcc→Prop} (hj:io Q) {mode seen:Int} {ns ns':List GNode} {e:GEv} {out:List GOcc} (hb:Q ⟨e.At,e.At,[seen]⟩) (h1:oO Q ns) (h2:∀n∈ns,ku Q n) (hst:iv mode seen ns e=some (ns',out)) :
  oO Q ns'∧(∀n∈ns',ku Q n)∧All Q out:=by
 have hd:=BW hj (mode:=mode) (seen:=seen) (before:=e.At) 1001 ns [] h1 h2 All.nil
 have hp:=zm hj (mode:=mode) (seen:=seen) (t:=e.At) (ev:=some e.Sym) (fun _=>hb) hd.1 hd.2.1
 unfold iv at hst
 split at hst
 ·cases hst
 split at hst
 ·cases hst
 simp only[qzh,oM] at hst
 obtain⟨rfl,rfl⟩:=hst
 exact⟨hd.1.point,hp.1,hd.2.2.app (vz hp.2)⟩
theorem Fk (k:Nat) (g1:Int→Option Bool) (l:List Int) (hl:l.length≤1000000) (h:∀x∈l,g1 x=some false):∀(d n i:Nat),i+d=l.length→d<n→bj.l0 k g1 l n (i:Int)=some (.ok ()):=by
 intro d
 induction d with
 |zero=>
  intro n i hi hn
  obtain⟨n,rfl⟩:=qsc n
  rw[bj.l0,if_neg qom]
 |succ d ih=>
  intro n i hi hn
  obtain⟨n,rfl⟩:=qsc n
  have hlt:i<l.length:=by omega
  rw[bj.l0,if_pos qom,ac qom,qzd,qzc hlt]
  simp only[qzb]
  rw[h _ (qze hlt)]
  simp only[qzb,qzw,if_false]
  rw[wrS i qom]
  exact ih n (i+1) qom qom
theorem Fq (k:Nat) (hk:2000000≤k) (g1:Int→Option Bool) (l:List Int) (hl:l.length≤1000000) (h:∀x∈l,g1 x=some false):cO.f g1 k l=some false:=by
 have:=Fk k g1 l hl h l.length k 0 qom qom
 rw[show((0:Nat):Int)=0 from rfl] at this
 simp only[cO.f,bj.f,this,qzb]
 rfl
theorem zR (k:Nat) (g1:GOcc→Option Bool) (l:List GOcc) (hl:l.length≤1000000) (h:∀x∈l,g1 x=some false):∀(d n i:Nat),i+d=l.length→d<n→aC.l0 k g1 l n (i:Int)=some (.ok ()):=by
 intro d
 induction d with
 |zero=>
  intro n i hi hn
  obtain⟨n,rfl⟩:=qsc n
  rw[aC.l0,if_neg qom]
 |succ d ih=>
  intro n i hi hn
  obtain⟨n,rfl⟩:=qsc n
  have hlt:i<l.length:=by omega
  rw[aC.l0,if_pos qom,ac qom,qzd,qzc hlt]
  simp only[qzb]
  rw[h _ (qze hlt)]
  simp only[qzb,qzw,if_false]
  rw[wrS i qom]
  exact ih n (i+1) qom qom
theorem xi (k:Nat) (hk:2000000≤k) (g1:GOcc→Option Bool) (l:List GOcc) (hl:l.length≤1000000) (h:∀x∈l,g1 x=some false):ba.f g1 k l=some false:=by
 have:=zR k g1 l hl h l.length k 0 qom qom
 rw[show((0:Nat):Int)=0 from rfl] at this
 simp only[ba.f,aC.f,this,qzb]
 rfl
theorem xK (k:Nat) (g1:GNode→Option Bool) (l:List GNode) (hl:l.length≤1000000) (h:∀x∈l,g1 x=some false):∀(d n i:Nat),i+d=l.length→d<n→bD.l0 k g1 l n (i:Int)=some (.ok ()):=by
 intro d
 induction d with
 |zero=>
  intro n i hi hn
  obtain⟨n,rfl⟩:=qsc n
  rw[bD.l0,if_neg qom]
 |succ d ih=>
  intro n i hi hn
  obtain⟨n,rfl⟩:=qsc n
  have hlt:i<l.length:=by omega
  rw[bD.l0,if_pos qom,ac qom,qzd,qzc hlt]
  simp only[qzb]
  rw[h _ (qze hlt)]
  simp only[qzb,qzw,if_false]
  rw[wrS i qom]
  exact ih n (i+1) qom qom
theorem CP (k:Nat) (hk:2000000≤k) (g1:GNode→Option Bool) (l:List GNode) (hl:l.length≤1000000) (h:∀x∈l,g1 x=some false):ej.f g1 k l=some false:=by
 have:=xK k g1 l hl h l.length k 0 qom qom
 rw[show((0:Nat):Int)=0 from rfl] at this
 simp only[ej.f,bD.f,this,qzb]
 rfl
theorem pU {s:Int} {l:List GOcc} {T:Int} (h:jT l) (hm:All (eH s) l) (ht:All (fun o=>o.To≤T) l) (hT:T≤1020) (hl:l.length≤40):dA l=true:=
 EE (fun o ho=>(eW o).2 ⟨(hm o ho).1,(hm o ho).2.1,by have:=ht o ho;omega,by have:=List.length_pos_iff.2 (hm o ho).2.2.1;omega,h.2 o ho⟩) h.1 hl
theorem mq {s T:Int} {es:List GEx} {ns:List GNode} {n:GNode} (h:gj T es ns) (hn:n∈ns) (hm:ku (eH s) n) (hT:0≤T∧T≤1000) :
  dA n.Pair.Left=true∧dA n.Pair.Right=true∧dA n.Span.Left=true∧dA n.Span.Mid=true∧dA n.Due=true:=by
 obtain⟨⟨⟨a1,a2,a3,a4,a5⟩,b1,b2,b3,b4⟩,_,_,c5,d1,d2,d3,d4,d5⟩:=h.2.2 n hn
 obtain⟨m1,m2,m3,m4,m5⟩:=hm
 have k0:=lq h n 0
 have k1:=lq h n 1
 have k2:=lq h n 2
 refine⟨pU a1 m1 b1 qom qom,pU a2 m2 b2 qom qom,pU a3 m3 b3 qom qom,pU a4 m4 b4 qom ?_,pU (T:=T+20) a5 m5 (fun o ho=>(c5 o ho).2) qom qom⟩
 split at d4 <;> omega
theorem lz (k:Nat) (hk:1000000000000≤k) {l:List GOcc} (h:dA l=true):bR.f k l=some true:=by
 rw[E3 k hk l ⟨by have:=jg h;omega,qQ h⟩,h]
theorem EB (k:Nat) (hk:2000000000000≤k) {s T:Int} {es:List GEx} {ns:List GNode} (h:gj T es ns) (hT:0≤T∧T≤1000) {i:Nat} {n:GNode} (hn:ns[i]? =some n) (hm:ku (eH s) n):jS.f k n (i:Int) T=some true:=by
 have hmem:=qzI hn
 obtain⟨o1,o2,o3,o4,o5⟩:=mq h hmem hm hT
 obtain⟨e,he,hx,hR⟩:=h.1.2 i n hn
 have ha:=Am hx hR
 have hlen:=h.2.1
 have hi:i<ns.length:=(List.getElem?_eq_some_iff.1 hn).1
 have hh:eI e=true:=by have:=hx.1;rw[iS] at this;simp only[qzf] at this;exact this.1
 unfold eI at hh
 simp only[qzf,decide_eq_true_eq,sW] at hh
 obtain⟨⟨⟨⟨hk1,hs1⟩,hs2⟩,hs3⟩,hN⟩:=hh
 obtain⟨⟨_,_⟩,hM,hD,hD2,_⟩:=h.2.2 n hmem
 have hkids:∀x∈n.Kids,gA.f x (i:Int)=some false:=fun x hx'=>by
  obtain⟨j,hj⟩:=List.mem_iff_getElem?.1 hx'
  have hjl:j<e.Kids.length:=by rw[←hR.2.2.2.1];exact(List.getElem?_eq_some_iff.1 hj).1
  obtain⟨q,q1,q2,_⟩:=hR.2.2.2.2 j hjl
  rw[hj] at q2
  simp only[qzh] at q2
  subst q2
  simp only[gA.f]
  rw[wr _ qom,fi]
  simp only[qzb,qzh,ym,qzf,decide_eq_true_eq]
  omega
 have hdue:∀x∈n.Due,fF.f x T=some false:=fun x hx'=>by
  have:=(hD2 x hx').1
  simp only[fF.f,qzh,ym,decide_eq_true_eq]
  omega
 have k3:n.Kids.length≤3:=by
  have:fg e.Kind≤3:=by
   unfold fg;repeat' split
   all_goals omega
  rw[hR.2.2.2.1];omega
 have c1:=Fq k qom (fun y0=>gA.f y0 (i:Int)) n.Kids qom hkids
 have c2:=xi k qom (fun y0=>fF.f y0 T) n.Due (by have:=jg o5;omega) hdue
 have hpair:jv.f k n.Pair=some true:=by
  unfold jv.f
  rw[lz k qom o1]
  simp only[qzb,if_true]
  rw[lz k qom o2]
  rfl
 have hspan:jy.f k n.Span=some true:=by
  unfold jy.f
  rw[lz k qom o3]
  simp only[qzb,if_true]
  rw[lz k qom o4]
  rfl
 have hkind:ib.f n.Kind=some true:=by
  simp only[ib.f,fi,qzb,qzh,qzf,decide_eq_true_eq]
  omega
 have hsym:eM.f n.Sym=some true:=by
  simp only[eM.f,fi,qzb,qzh,qzf,decide_eq_true_eq]
  rw[hR.2.1];omega
 have hmany:bw.f n.Many 0 40=some true:=by
  simp only[fi,qzh,qzf,decide_eq_true_eq];omega
 unfold jS.f
 rw[hkind]
 simp only[qzb,if_true]
 rw[BF n.Kind qom]
 simp only[qzb]
 rw[if_pos (by rw[hR.2.2.2.1,hR.1];omega),c1]
 simp only[qzb,qzw,if_false]
 by_cases h7:n.Kind=7
 ·rw[if_pos h7]
  have hn7:bw.f n.N 1 20=some true:=by
   rw[if_pos (by rw[←hR.1];exact h7)] at hN
   simp only[qzf,decide_eq_true_eq] at hN
   simp only[fi,qzh,qzf,decide_eq_true_eq,hR.2.2.1];omega
  rw[hn7]
  simp only[qzb,if_true]
  rw[hsym]
  simp only[qzb,if_true]
  rw[hmany]
  simp only[qzb,if_true]
  rw[hpair]
  simp only[qzb,if_true]
  rw[hspan]
  simp only[qzb,if_true]
  rw[lz k qom o5]
  simp only[qzb,if_true]
  rw[c2]
  rfl
 ·rw[if_neg h7]
  have hn0:n.N=0:=by
   rw[if_neg (by rw[←hR.1];exact h7)] at hN
   simp only[decide_eq_true_eq] at hN
   rw[hR.2.2.1];exact hN
  rw[if_pos hn0,if_neg (by rw[hD h7];simp)]
  rw[hsym]
  simp only[qzb,if_true]
  rw[hmany]
  simp only[qzb,if_true]
  rw[hpair]
  simp only[qzb,if_true]
  rw[hspan]
  simp only[qzb,if_true]
  rw[lz k qom o5]
  simp only[qzb,if_true]
  rw[c2]
  rfl
/-- a graph of an expression that has seen these events -/
structure iB (now:Int) (seen:Nat) (g:GGraph):Prop where
 inv:∃es,gj now es g.Nodes
 late:0≤now∧now≤1000
 now':g.Now=now
 seen':g.Seen=seen
 few:seen≤24
 mode:0≤g.Mode∧g.Mode≤4
 full:g.Full=false
 made:∀n∈g.Nodes,ku (eH seen) n
theorem sH (k:Nat) (hk:2000000000000≤k) {now:Int} {seen:Nat} {g:GGraph} (h:iB now seen g):dr.f k g=some true:=by
 obtain⟨es,hi⟩:=h.inv
 have hlen:=hi.2.1
 have L:∀(d n i:Nat),i+d=g.Nodes.length→d<n→dr.l0 k g n (i:Int)=some (.ok ()):=by
  intro d
  induction d with
  |zero=>
   intro n i hi' hn
   obtain⟨n,rfl⟩:=qsc n
   rw[dr.l0,if_neg qom]
  |succ d ih=>
   intro n i hi' hn
   obtain⟨n,rfl⟩:=qsc n
   have hlt:i<g.Nodes.length:=by omega
   rw[dr.l0,if_pos qom,ac qom,qzd,qzc hlt]
   simp only[qzb]
   rw[h.now',EB k hk hi h.late (qzc hlt) (h.made _ (qze hlt))]
   simp only[qzb,if_true]
   rw[wrS i qom]
   exact ih n (i+1) qom qom
 have L0:=L g.Nodes.length k 0 qom qom
 rw[show((0:Nat):Int)=0 from rfl] at L0
 unfold dr.f
 rw[L0]
 simp only[qzb]
 have e1:eJ.f g.Mode=some true:=by
  simp only[eJ.f,fi,qzb,qzh,qzf,decide_eq_true_eq];exact h.mode
 have e2:bw.f (g.Nodes.length:Int) 1 12=some true:=by
  simp only[fi,qzh,qzf,decide_eq_true_eq];omega
 have e3:bw.f g.Seen 0 24=some true:=by
  have:=h.seen';have:=h.few
  simp only[fi,qzh,qzf,decide_eq_true_eq];omega
 have e4:bw.f g.Now 0 1000=some true:=by
  have:=h.now';have:=h.late
  simp only[fi,qzh,qzf,decide_eq_true_eq];omega
 rw[e1]
 simp only[qzb,if_true]
 rw[e2]
 simp only[qzb,if_true]
 rw[e3]
 simp only[qzb,if_true]
 rw[e4]
 rfl
theorem wN {s:Nat} {o:GOcc} (h:eH s o) (hl:o.Ids.length≤1000):∃x,dK.f o=some x∧x∈o.Ids∧x<s:=by
 have h1:=List.length_pos_iff.2 h.2.2.1
 obtain⟨m,hm⟩:∃m,o.Ids.length=m+1:=⟨o.Ids.length-1,by omega⟩
 unfold dK.f
 rw[hm,wrP m qom,ac qom,qzd,qzc qom]
 exact⟨_,rfl,qze _,h.2.2.2 _ (qze _)⟩
theorem H4 (k:Nat) (hk:2000000≤k) (e:GEng) (ls:List (List GOcc)) (hl:ls.length≤1000) (h:∀l∈ls,l.length≤1000∧All (eH e.Events.length) l∧Ids l):cv.f k e ls=some true:=by
 have L:∀(d n i:Nat),i+d=ls.length→d<n→cv.l0 k e ls n (i:Int)=some (.ok ()):=by
  intro d
  induction d with
  |zero=>
   intro n i hi' hn
   obtain⟨n,rfl⟩:=qsc n
   rw[cv.l0,if_neg qom]
  |succ d ih=>
   intro n i hi' hn
   obtain⟨n,rfl⟩:=qsc n
   have hlt:i<ls.length:=by omega
   obtain⟨h1,h2,h3⟩:=h _ (qze hlt)
   rw[cv.l0,if_pos qom,ac qom,qzd,qzc hlt]
   simp only[qzb]
   rw[xi k hk (fun y0=>gL.f y0 e) ls[i] qom (fun x hx=>by
    obtain⟨z,q1,_,q3⟩:=wN (h2 x hx) (by have:=co (h3 x hx);omega)
    simp only[gL.f,q1,qzb,qzh,ym,decide_eq_true_eq]
    exact q3)]
   simp only[qzb,qzw,if_false]
   rw[wrS i qom]
   exact ih n (i+1) qom qom
 have L0:=L ls.length k 0 qom qom
 rw[show((0:Nat):Int)=0 from rfl] at L0
 unfold cv.f
 rw[L0]
 rfl
theorem wc (k:Nat) (hk:2000000000000≤k) (e:GEng) {now:Int} {g:GGraph} (hn:jj.f e.Events=some now) (h:iB now e.Events.length g):en.f k e g=some true:=by
 obtain⟨es,hi⟩:=h.inv
 have hlen:=hi.2.1
 unfold en.f
 rw[sH k hk h]
 simp only[qzb,if_true]
 rw[if_neg (by rw[h.full];decide),if_pos h.seen',hn]
 simp only[qzb]
 rw[if_pos h.now',CP k qom (fun y0=>fQ.f k y0 e) g.Nodes qom (fun n hn'=>by
  obtain⟨o1,o2,o3,o4,o5⟩:=mq hi hn' (h.made n hn') h.late
  obtain⟨m1,m2,m3,m4,m5⟩:=h.made n hn'
  have each:∀l,dA l=true→All (eH e.Events.length) l→l.length≤1000∧All (eH e.Events.length) l∧Ids l:=fun l ho hm=>⟨by have:=jg ho;omega,hm,zd ho⟩
  simp only[fQ.f]
  rw[H4 k qom e _ (by simp) (fun l hl=>by
   simp only[qzo,sP,or_false] at hl
   rcases hl with rfl|rfl|rfl|rfl|rfl
   ·exact each _ o1 m1
   ·exact each _ o2 m2
   ·exact each _ o3 m3
   ·exact each _ o4 m4
   ·exact each _ o5 m5)]
  rfl)]
 rfl
def jG (rs:List GRule) (x:Int):Int:=((rs[x.toNat]?).map (·.Pri)).getD 0
/-- into a list that is kept backwards -/
def inR (p:Int→Int):List Int→Int→List Int
 |[],x=>[x]
 |y::l,x=>if p y<p x then y::inR p l x else x::y::l
def li (p:Int→Int) (n:Nat):List Int:=(List.range n).foldl (fun s (i:Nat)=>inR p s (i:Int)) []
def eF (rs:List GRule):List Int:=(li (jG rs) rs.length).reverse
theorem rX (p:Int→Int) (n:Nat):li p (n+1)=inR p (li p n) (n:Int):=by
 unfold li
 rw[List.range_succ,List.foldl_append];rfl
theorem uM (p:Int→Int) (x:Int):∀l:List Int,(inR p l x).Perm (x::l)
 |[]=>List.Perm.refl _
 |y::l=>by
  unfold inR
  split
  ·exact((uM p x l).cons y).trans (List.Perm.swap x y l)
  ·exact List.Perm.refl _
theorem mQ (p:Int→Int):∀n:Nat,(li p n).Perm ((List.range n).map fun i:Nat=>(i:Int))
 |0=>List.Perm.refl _
 |n+1=>by
  rw[rX,List.range_succ,List.map_append]
  exact(uM p n _).trans (((mQ p n).cons (n:Int)).trans (by rw[qzG,pC];exact(List.perm_append_singleton _ _).symm))
theorem re (rs:List GRule):(eF rs).Perm ((List.range rs.length).map fun i:Nat=>(i:Int)):=(List.reverse_perm _).trans (mQ _ _)
theorem fw (rs:List GRule):(eF rs).length=rs.length:=by rw[(re rs).length_eq];simp
theorem jU {rs:List GRule} {x:Int}:x∈eF rs↔∃i:Nat,i<rs.length∧x=i:=by
 rw[(re rs).mem_iff,List.mem_map]
 constructor
 ·rintro⟨i,h,rfl⟩;exact⟨i,List.mem_range.1 h,rfl⟩
 ·rintro⟨i,h,rfl⟩;exact⟨i,List.mem_range.2 h,rfl⟩
theorem mF (rs:List GRule):(eF rs).Nodup:=by
 rw[(re rs).nodup_iff]
 exact(List.pairwise_map.2 ((List.nodup_range (n:=rs.length)).imp fun h e=>h (Int.ofNat.inj e)))
theorem AZ {p:Int→Int} {n:Nat} {x:Int}:x∈li p n↔∃i:Nat,i<n∧x=i:=by
 rw[(mQ p n).mem_iff,List.mem_map]
 constructor
 ·rintro⟨i,h,rfl⟩;exact⟨i,List.mem_range.1 h,rfl⟩
 ·rintro⟨i,h,rfl⟩;exact⟨i,List.mem_range.2 h,rfl⟩
theorem Hq {α:Type} (A:List α) (y x z:α) (r:List α):(A++y::x::r).set (A.length+1) z=A++y::z::r:=by
 rw[List.set_append_right _ _ qom,Nat.add_sub_cancel_left];rfl
theorem I0 {α:Type} (A:List α) (y z:α) (r:List α):(A++y::r).set A.length z=A++z::r:=by
 rw[List.set_append_right _ _ qom,qzV];rfl
theorem H0 {α:Type} (A:List α) (y x:α) (r:List α):(A++y::x::r)[A.length+1]? =some x:=by
 rw[qzu qom,Nat.add_sub_cancel_left];rfl
theorem BU {α:Type} (A:List α) (y:α) (r:List α):(A++y::r)[A.length]? =some y:=by
 rw[qzu qom,qzV];rfl
theorem yW (k:Nat) (p:Int→Int) (V:Int→Prop) (g:Int→Int→Option Int) (hg:∀a b,V a→V b→g a b=some (p b-p a)) (x:Int) (hx:V x):∀(A r:List Int) (N:Nat),(∀y∈A,V y)→A.length+r.length≤1000→A.length<N→
  av.l3 k g 0 N (A.reverse++x::r) (A.length:Int)=some ((inR p A x).reverse++r)
 |[],r,N,_,_,hN=>by
  obtain⟨N,rfl⟩:=qsc N
  rw[av.l3,if_neg (by simp)]
  rfl
 |y::A,r,N,hA,hl,hN=>by
  obtain⟨N,rfl⟩:=qsc N
  have hl':=hl
  simp only[qzm] at hl'
  have e0:(y::A).reverse++x::r=A.reverse++y::x::r:=by simp
  have eL:(A.reverse++y::x::r).length=A.length+r.length+2:=by simp;omega
  have g1:(A.reverse++y::x::r)[A.length+1]? =some x:=by have:=H0 A.reverse y x r;rwa [yk] at this
  have g2:(A.reverse++y::x::r)[A.length]? =some y:=by have:=BU A.reverse y (x::r);rwa [yk] at this
  have s1:(A.reverse++y::x::r).set (A.length+1) y=A.reverse++y::y::r:=by have:=Hq A.reverse y x y r;rwa [yk] at this
  have s2:(A.reverse++y::y::r).set A.length x=A.reverse++x::y::r:=by have:=I0 A.reverse y x (y::r);rwa [yk] at this
  have g3:(A.reverse++y::y::r)[A.length]? =some y:=by have:=BU A.reverse y (y::r);rwa [yk] at this
  rw[e0,show(((y::A).length:Nat):Int)=((A.length+1:Nat):Int) from rfl]
  rw[av.l3,if_pos qom,wrP A.length qom,ac qom,ac (by rw[eL];omega),qzd,qzd,g1]
  simp only[qzb]
  rw[ac qom,ac (by rw[eL];omega),g2]
  simp only[qzb]
  rw[hg x y hx (hA y (by simp))]
  simp only[qzb]
  unfold inR
  by_cases h:p y<p x
  ·rw[if_pos qom,if_pos h]
   rw[ac qom,ac (by rw[eL];omega),ac qom,ac (by rw[eL];omega),ac qom,ac (by rw[eL];omega),ac qom,ac (by rw[eL];omega),s1,g3]
   simp only[qzb]
   rw[s2,yW k p V g hg x hx A (y::r) N (fun z hz=>hA z (by simp[hz])) (by simp only[qzm];omega) (by simp only[qzm] at hN;omega)]
   simp
  ·rw[if_neg qom,if_neg h]
   simp
theorem FI (k:Nat) (hk:2000≤k) (p:Int→Int) (V:Int→Prop) (g:Int→Int→Option Int) (hg:∀a b,V a→V b→g a b=some (p b-p a)) (n:Nat) (hn:n≤500) (hV:∀i:Nat,i<n→V i):∀(d i N:Nat),i+d=n→1≤i→d<N→
  av.l2 k g 0 (n:Int) N ((li p i).reverse++(List.range' i d).map fun j:Nat=>(j:Int)) (i:Int)=some (li p n).reverse:=by
 intro d
 induction d with
 |zero=>
  intro i N hi h1 hN
  obtain⟨N,rfl⟩:=qsc N
  have:i=n:=by omega
  subst this
  rw[av.l2,if_neg qom]
  simp
 |succ d ih=>
  intro i N hi h1 hN
  obtain⟨N,rfl⟩:=qsc N
  rw[av.l2,if_pos qom,rP,qzG]
  have hlen:(li p i).length=i:=by rw[(mQ p i).length_eq];simp
  have:=yW k p V g hg (i:Int) (hV i qom) (li p i) ((List.range' (i+1) d).map fun j:Nat=>(j:Int)) k (fun y hy=>by obtain⟨j,hj,rfl⟩:=AZ.1 hy;exact hV j qom) (by rw[hlen];simp;omega) qom
  rw[hlen] at this
  rw[this]
  simp only[qzb]
  rw[wrS i qom,←rX]
  exact ih (i+1) N qom qom qom
theorem Ig (k:Nat) (hk:2000≤k) (p:Int→Int) (V:Int→Prop) (g:Int→Int→Option Int) (hg:∀a b,V a→V b→g a b=some (p b-p a)) (n:Nat) (hn:n≤500) (hV:∀i:Nat,i<n→V i) :
  av.f g k ((List.range' 0 n).map fun j:Nat=>(j:Int)) 0 (n:Int)=some (li p n).reverse:=by
 unfold av.f
 rw[show IntKind.wrap .i64 ((0:Int)+1)=1 from wr _ qom]
 cases n with
 |zero=>
  obtain⟨m,rfl⟩:∃m,k=m+1:=⟨k-1,by omega⟩
  rw[av.l2,if_neg qom];rfl
 |succ n=>
  rw[rP,qzG]
  have:=FI k hk p V g hg (n+1) hn hV n 1 k qom qom qom
  rw[show(li p 1).reverse=[((0:Nat):Int)] from rfl] at this
  rw[show((1:Nat):Int)=1 from rfl] at this
  have e:((0:Nat):Int)::List.map (fun j:Nat=>(j:Int)) (List.range' (0+1) n)=[((0:Nat):Int)]++List.map (fun j:Nat=>(j:Int)) (List.range' 1 n):=rfl
  rw[e,this];rfl
theorem Fr (k:Nat) (hk:2000≤k) (p:Int→Int) (V:Int→Prop) (g:Int→Int→Option Int) (hg:∀a b,V a→V b→g a b=some (p b-p a)) (n:Nat) (hn:n≤19) (hV:∀i:Nat,i<n→V i) :
  eY.f g k ((List.range' 0 n).map fun j:Nat=>(j:Int))=some (li p n).reverse:=by
 have hlen:(li p n).reverse.length=n:=by rw[yk,(mQ p n).length_eq];simp
 have hl2:((List.range' 0 n).map fun j:Nat=>(j:Int)).length=n:=by simp
 obtain⟨m,rfl⟩:∃m,k=m+1:=⟨k-1,by omega⟩
 have ie:=Ig (m+1) hk p V g hg n qom hV
 unfold eY.f aG.f
 rw[aG.l0,hl2,if_pos qom]
 simp only[qzb]
 rw[ie]
 simp only[qzb]
 rw[aG.l3,if_neg qom,ac (by rw[hlen,hl2])]
 simp only[qzb]
 rw[ac (by rw[hlen])]
theorem H5 (k:Nat) (hk:2000≤k) (rs:List GRule) (hl:rs.length≤4) (hp:∀r∈rs,0≤r.Pri∧r.Pri≤9):ew.f k rs=some (eF rs):=by
 have L:∀(d i N:Nat),i+d=rs.length→d<N→ew.l0 k rs N ((List.range' 0 i).map fun j:Nat=>(j:Int)) (i:Int)=some ((List.range' 0 rs.length).map fun j:Nat=>(j:Int)):=by
  intro d
  induction d with
  |zero=>
   intro i N hi hN
   obtain⟨N,rfl⟩:=qsc N
   rw[ew.l0,if_neg qom,show i=rs.length by omega]
  |succ d ih=>
   intro i N hi hN
   obtain⟨N,rfl⟩:=qsc N
   rw[ew.l0,if_pos qom,ac (by simp;omega),wrS i qom]
   have:=ih (i+1) N qom qom
   rw[List.range'_concat,List.map_append] at this
   simpa using this
 have L0:=L rs.length 0 k qom qom
 unfold ew.f
 rw[show(List.map (fun j:Nat=>(j:Int)) (List.range' 0 0))=[] from rfl,show((0:Nat):Int)=0 from rfl] at L0
 rw[L0]
 simp only[qzb]
 have hlen:(eF rs).length=rs.length:=fw rs
 rw[Fr k hk (jG rs) (fun x=>∃i:Nat,i<rs.length∧x=i) _ (fun a b ⟨i,hi,ha⟩ ⟨j,hj,hb⟩=>by
  subst ha;subst hb
  unfold lH.f jG
  have h1:=hp _ (qze hi)
  have h2:=hp _ (qze hj)
  rw[ac qom,qzd,qzd,qzc hj]
  simp only[qzb]
  rw[ac qom,qzc hi]
  simp only[qzb,qzL,vo]
  rw[wr _ qom]) rs.length qom (fun i hi=>⟨i,hi,rfl⟩)]
 simp only[qzb]
 rw[ac (by show(eF rs).length=_;rw[hlen];simp)]
 rfl
/-- a loop that ends where something does not hold -/
theorem D6 {β:Type} (m:Nat) (p:Nat→Bool) (b:β) (L:Nat→Int→Option (Except β Unit)) (h0:∀N,L (N+1) (m:Int)=some (.ok ()))
  (h1:∀N i,i<m→L (N+1) (i:Int)=if p i=true then L N ((i+1:Nat):Int) else some (.error b)):∀(d i N:Nat),i+d=m→d<N→L N (i:Int)=some (if(List.range' i d).all p=true then .ok () else .error b):=by
 intro d
 induction d with
 |zero=>
  intro i N hi hN
  obtain⟨N,rfl⟩:=qsc N
  rw[show i=m by omega,h0];rfl
 |succ d ih=>
  intro i N hi hN
  obtain⟨N,rfl⟩:=qsc N
  rw[h1 N i qom,rP,qzK]
  by_cases hp:p i=true
  ·rw[if_pos hp,ih (i+1) N qom qom,hp,qzk]
  ·rw[if_neg hp]
   have:p i=false:=by simpa using hp
   rw[this,Bool.false_and];rfl
theorem jx {β:Type} (m:Nat) (p:Nat→Bool) (b:β) (L:Nat→Int→Option (Except β Unit)) (h0:∀N,L (N+1) (m:Int)=some (.ok ()))
  (h1:∀N i,i<m→L (N+1) (i:Int)=if p i=true then L N ((i+1:Nat):Int) else some (.error b)) (N:Nat) (hN:m<N):L N 0=some (if ∀i,i<m→p i=true then .ok () else .error b):=by
 have:=D6 m p b L h0 h1 m 0 N qom hN
 rw[show((0:Nat):Int)=0 from rfl] at this
 rw[this]
 congr 1
 by_cases h:∀i,i<m→p i=true
 ·rw[if_pos h,if_pos]
  rw[qzN]
  intro x hx
  rw[List.mem_range'] at hx
  obtain⟨j,h1,h2⟩:=hx
  exact h x qom
 ·rw[if_neg h,if_neg]
  intro q
  rw[qzN] at q
  exact h fun i hi=>q i (List.mem_range'.2 ⟨i,hi,by omega⟩)
/-- a loop that makes one of each -/
theorem ic {α β:Type} (l:List α) (f:α→β) (L:Nat→List β→Int→Option (List β)) (h0:∀N acc,L (N+1) acc (l.length:Int)=some acc)
  (h1:∀N acc i (h:i<l.length),acc.length=i→L (N+1) acc (i:Int)=L N (acc++[f l[i]]) ((i+1:Nat):Int)) (N:Nat) (hN:l.length<N):L N [] 0=some (l.map f):=by
 have:∀(d i N:Nat),i+d=l.length→d<N→L N ((l.take i).map f) (i:Int)=some (l.map f):=by
  intro d
  induction d with
  |zero=>
   intro i N hi hN
   obtain⟨N,rfl⟩:=qsc N
   rw[show i=l.length by omega,h0,List.take_length]
  |succ d ih=>
   intro i N hi hN
   obtain⟨N,rfl⟩:=qsc N
   have hlt:i<l.length:=by omega
   rw[h1 N _ i hlt (by simp;omega)]
   have:=ih (i+1) N qom qom
   rw[xJ,qzc hlt,List.map_append] at this
   exact this
 exact this l.length 0 N qom hN
def oK (s:ByteArray) (i:Nat):Bool:= !decide ((mD s i)<97)&& !decide (122<(mD s i))
def jZ (s:ByteArray):Bool:=decide (∀i,i<s.size→oK s i=true)&&(decide (1≤s.size)&&decide (s.size≤6))
theorem z6 (k:Nat) (s:ByteArray) (hs:s.size≤1000000) (hk:1000001≤k):dO.f k s=some (jZ s):=by
 have:=jx s.size (oK s) false (dO.l0 k s) (fun N=>by rw[dO.l0,if_neg qom])
  (fun N i hi=>by
   rw[dO.l0,if_pos qom,ac qom,ac qom,ac qom,ac qom,qzd,wrS i qom]
   unfold oK
   by_cases h1:(mD s i)<97
   ·rw[if_pos h1];simp[h1]
   ·rw[if_neg h1]
    by_cases h2:122<(mD s i)
    ·rw[if_pos h2];simp[h2]
    ·rw[if_neg h2];simp[h1,h2]) k qom
 unfold dO.f jZ
 rw[this]
 by_cases h:∀i,i<s.size→oK s i=true
 ·rw[if_pos h]
  simp only[qzb,fi,qzh]
  rw[qzP]
  simp only[qzf,decide_eq_true_eq]
  constructor
  ·intro q;exact⟨h,by omega,by omega⟩
  ·intro q;omega
 ·rw[if_neg h,decide_eq_false h];rfl
def rOk (r:GRule):Bool:=jZ r.Name&&(decide (0≤r.Pri∧r.Pri≤9)&&(decide (0≤r.Mode∧r.Mode≤4)&&(lj r.Ex&&(decide (0≤r.Low∧r.Low≤r.High∧r.High≤100)&&(decide (0≤r.Key∧r.Key≤3)&&(decide (-9≤r.Add∧r.Add≤9)&&decide (-1≤r.Raise∧r.Raise≤4)))))))
structure wA (r:GRule):Prop where
 name:jZ r.Name=true
 pri:0≤r.Pri∧r.Pri≤9
 mode:0≤r.Mode∧r.Mode≤4
 ex:lj r.Ex=true
 low:0≤r.Low∧r.Low≤r.High∧r.High≤100
 key:0≤r.Key∧r.Key≤3
 add: -9≤r.Add∧r.Add≤9
 raise: -1≤r.Raise∧r.Raise≤4
theorem xw (r:GRule):rOk r=true↔wA r:=by
 unfold rOk
 simp only[qzf,decide_eq_true_eq]
 constructor
 ·rintro⟨a,b,c,d,e,f,g,h⟩;exact⟨a,b,c,d,e,f,g,h⟩
 ·rintro⟨a,b,c,d,e,f,g,h⟩;exact⟨a,b,c,d,e,f,g,h⟩
/-- small enough to be looked at -/
def mT (r:GRule):Prop:=r.Name.size≤1000000∧exN r.Ex≤1000000
theorem zt (k:Nat) (hk:1000000000000≤k) (r:GRule) (h:mT r):kS.f k r=some (rOk r):=by
 unfold kS.f rOk
 rw[z6 k r.Name h.1 qom,Hr,Cs r.Ex (by have:=h.2;omega) k (by have:=h.2;omega)]
 simp only[fi,qzb]
 cases jZ r.Name
 ·rfl
 simp only[if_true,qzk]
 by_cases h1:0≤r.Pri∧r.Pri≤9
 rotate_left
 ·rw[if_neg (by simpa using h1),decide_eq_false h1];rfl
 rw[if_pos (by simpa using h1),decide_eq_true h1,qzk]
 by_cases h2:0≤r.Mode∧r.Mode≤4
 rotate_left
 ·rw[if_neg (by simpa using h2),decide_eq_false h2];rfl
 rw[if_pos (by simpa using h2),decide_eq_true h2,qzk]
 cases lj r.Ex
 ·rfl
 simp only[if_true,qzk]
 by_cases h3:0≤r.Low∧r.Low≤r.High
 rotate_left
 ·rw[if_neg (by simpa using h3),decide_eq_false (fun q=>h3 ⟨q.1,q.2.1⟩)];rfl
 rw[if_pos (by simpa using h3)]
 by_cases h4:100<r.High
 ·rw[if_pos h4,decide_eq_false (fun q=>by omega)];rfl
 rw[if_neg h4,decide_eq_true (show 0≤r.Low∧r.Low≤r.High∧r.High≤100 by omega),qzk]
 by_cases h5:0≤r.Key∧r.Key≤3
 rotate_left
 ·rw[if_neg (by simpa using h5),decide_eq_false h5];rfl
 rw[if_pos (by simpa using h5),decide_eq_true h5,qzk]
 by_cases h6: -9≤r.Add∧r.Add≤9
 rotate_left
 ·rw[if_neg (by simpa using h6),decide_eq_false h6];rfl
 rw[if_pos (by simpa using h6),decide_eq_true h6,qzk,qzh,qzP]
 simp
def iH (l:List GRule) (i:Nat):Bool:=match l[i]? with
 |some r=>rOk r&&(l.take i).all fun s=> !fA s.Name r.Name
 |none=>false
def dQ (l:List GRule):Bool:=decide (∀i,i<l.length→iH l i=true)&&decide (l.length≤4)
theorem dp {l:List GRule} (h:dQ l=true) {r:GRule} (hr:r∈l):wA r:=by
 unfold dQ at h
 simp only[qzf,decide_eq_true_eq] at h
 obtain⟨i,hi,rfl⟩:=List.mem_iff_getElem.1 hr
 have:=h.1 i hi
 unfold iH at this
 rw[qzc hi] at this
 simp only[qzf] at this
 exact(xw _).1 this.1
theorem gy {l:List GRule} (h:dQ l=true):l.length≤4:=by
 unfold dQ at h
 simp only[qzf,decide_eq_true_eq] at h
 exact h.2
theorem wA.small {r:GRule} (h:wA r):mT r:=by
 refine⟨?_,by have:=sk h.ex;omega⟩
 have:=h.name
 unfold jZ at this
 simp only[qzf,decide_eq_true_eq] at this
 omega
theorem zC (k:Nat) (g1:GRule→Option Bool) (p:GRule→Bool) (l:List GRule) (hl:l.length≤1000000) (h:∀x∈l,g1 x=some (p x)):∀(d n i:Nat),i+d=l.length→d<n→
  ∃r,bC.l0 k g1 l n (i:Int)=some r∧((∃j:Int,r= .error j∧0≤j∧(l.drop i).any p=true)∨(r= .ok ()∧(l.drop i).any p=false)):=by
 intro d
 induction d with
 |zero=>
  intro n i hi hn
  obtain⟨n,rfl⟩:=qsc n
  rw[bC.l0,if_neg qom,qzn qom]
  exact⟨_,rfl,.inr ⟨rfl,rfl⟩⟩
 |succ d ih=>
  intro n i hi hn
  obtain⟨n,rfl⟩:=qsc n
  have hlt:i<l.length:=by omega
  rw[bC.l0,if_pos qom,ac qom,qzd,qzc hlt,qzj hlt,List.any_cons]
  simp only[qzb]
  rw[h _ (qze hlt)]
  simp only[qzb]
  cases hp:p l[i]
  ·simp only[qzw,if_false,oc]
   rw[wrS i qom]
   exact ih n (i+1) qom qom
  ·exact⟨_,rfl,.inl ⟨i,rfl,by omega,rfl⟩⟩
theorem DZ (k:Nat) (hk:2000000≤k) (g1:GRule→Option Bool) (p:GRule→Bool) (l:List GRule) (hl:l.length≤1000000) (h:∀x∈l,g1 x=some (p x)):eg.f g1 k l=some (l.any p):=by
 obtain⟨r,e,h3⟩:=zC k g1 p l hl h l.length k 0 qom qom
 unfold eg.f bC.f
 rw[show(0:Int)=((0:Nat):Int) from rfl,e]
 simp only[qzB] at h3
 rcases h3 with⟨j,rfl,hj,h4⟩|⟨rfl,h4⟩
 ·have:¬j<0:=by omega
  simp[h4,this]
 ·simp[h4]
theorem HU {α:Type} (p:α→Bool) (l:List α):(l.all fun x=> !p x)= !(l.any p):=by
 induction l with
 |nil=>rfl
 |cons x l ih=>rw[qzK,List.any_cons,ih,Bool.not_or]
theorem qd (k:Nat) (hk:1000000000000≤k) (l:List GRule) (hl:l.length≤1000000) (h:∀r∈l,mT r):di.f k l=some (dQ l):=by
 have:=jx l.length (iH l) false (di.l0 k l) (fun N=>by rw[di.l0,if_neg qom])
  (fun N i hi=>by
   rw[di.l0,if_pos qom,ac qom,qzd,qzc hi]
   simp only[qzb]
   rw[zt k hk _ (h _ (qze hi))]
   simp only[qzb]
   have hn:iH l i=(rOk l[i]&&(l.take i).all fun s=> !fA s.Name l[i].Name):=by unfold iH;rw[qzc hi]
   rw[hn]
   by_cases hb:rOk l[i]=true
   ·rw[if_pos hb,hb,qzk,ac qom,ac qom,ac qom,DZ k qom (fun y0=>kt.f y0 l[i]) (fun s=>fA s.Name l[i].Name) (l.take i) (by rw[qzZ];omega) (fun x _=>rfl)]
    simp only[qzb]
    rw[HU]
    cases(l.take i).any fun s=>fA s.Name l[i].Name
    ·simp only[qzw,if_false,Bool.not_false,if_true]
     rw[wrS i qom]
    ·rfl
   ·rw[if_neg hb]
    have:rOk l[i]=false:=by simpa using hb
    rw[this];rfl) k qom
 unfold di.f dQ
 rw[this]
 by_cases h:∀i,i<l.length→iH l i=true
 ·rw[if_pos h,decide_eq_true h,qzk]
  simp only[qzb,qzh]
  rw[qzP]
  simp;omega
 ·rw[if_neg h,decide_eq_false h];rfl
theorem wS (k:Nat) (g1:GGraph→Option Bool) (l:List GGraph) (hl:l.length≤1000000) (h:∀x∈l,g1 x=some false):∀(d n i:Nat),i+d=l.length→d<n→aU.l0 k g1 l n (i:Int)=some (.ok ()):=by
 intro d
 induction d with
 |zero=>
  intro n i hi hn
  obtain⟨n,rfl⟩:=qsc n
  rw[aU.l0,if_neg qom]
 |succ d ih=>
  intro n i hi hn
  obtain⟨n,rfl⟩:=qsc n
  have hlt:i<l.length:=by omega
  rw[aU.l0,if_pos qom,ac qom,qzd,qzc hlt]
  simp only[qzb]
  rw[h _ (qze hlt)]
  simp only[qzb,qzw,if_false]
  rw[wrS i qom]
  exact ih n (i+1) qom qom
theorem Az (k:Nat) (hk:2000000≤k) (g1:GGraph→Option Bool) (l:List GGraph) (hl:l.length≤1000000) (h:∀x∈l,g1 x=some false):cX.f g1 k l=some false:=by
 have:=wS k g1 l hl h l.length k 0 qom qom
 rw[show((0:Nat):Int)=0 from rfl] at this
 simp only[cX.f,aU.f,this,qzb]
 rfl
theorem xF (k:Nat) (g1:GFire→Option Bool) (l:List GFire) (hl:l.length≤1000000) (h:∀x∈l,g1 x=some false):∀(d n i:Nat),i+d=l.length→d<n→bd.l0 k g1 l n (i:Int)=some (.ok ()):=by
 intro d
 induction d with
 |zero=>
  intro n i hi hn
  obtain⟨n,rfl⟩:=qsc n
  rw[bd.l0,if_neg qom]
 |succ d ih=>
  intro n i hi hn
  obtain⟨n,rfl⟩:=qsc n
  have hlt:i<l.length:=by omega
  rw[bd.l0,if_pos qom,ac qom,qzd,qzc hlt]
  simp only[qzb]
  rw[h _ (qze hlt)]
  simp only[qzb,qzw,if_false]
  rw[wrS i qom]
  exact ih n (i+1) qom qom
theorem Cj (k:Nat) (hk:2000000≤k) (g1:GFire→Option Bool) (l:List GFire) (hl:l.length≤1000000) (h:∀x∈l,g1 x=some false):dq.f g1 k l=some false:=by
 have:=xF k g1 l hl h l.length k 0 qom qom
 rw[show((0:Nat):Int)=0 from rfl] at this
 simp only[dq.f,bd.f,this,qzb]
 rfl
structure fR (e:GEng):Prop where
 rules:dQ e.Rules=true
 len:e.Graphs.length=e.Rules.length
 evs:fH e.Events=true
 graphs:∀g∈e.Graphs,iB (aL e.Events) e.Events.length g
 keys:e.Keys.length=4∧∀x∈e.Keys,0≤x∧x≤1000
 fired:e.Fired.length≤500000+2000 * e.Events.length∧∀f∈e.Fired,(0≤f.Rule∧f.Rule<e.Rules.length)∧dx f.Occ=true∧eH e.Events.length f.Occ
theorem AV (k:Nat) (hk:2000000000000≤k) {e:GEng} (h:fR e):iW.f k e=some true:=by
 have hev:=dV h.evs
 have hfew:=gy h.rules
 have hlen:=h.len
 unfold iW.f
 rw[qd k qom e.Rules qom (fun r hr=>(dp h.rules hr).small),h.rules]
 simp only[qzb,if_true]
 rw[if_pos (by rw[hlen]),Hl k e.Events qom qom,h.evs]
 simp only[qzb,if_true]
 rw[if_pos (by rw[h.keys.1];rfl)]
 rw[Az k qom (fun y0=>gJ.f k y0 e) e.Graphs qom (fun g hg=>by
  simp only[gJ.f,wc k hk e (tN e.Events qom) (h.graphs g hg)]
  rfl)]
 simp only[qzb,qzw,if_false]
 rw[Fq k qom (fun y0=>gG.f y0) e.Keys (by rw[h.keys.1];omega) (fun x hx=>by
  have:=h.keys.2 x hx
  simp only[gG.f,fi,qzb,qzh,ym,qzf,decide_eq_true_eq]
  exact this)]
 simp only[qzb,qzw,if_false]
 rw[Cj k qom (fun y0=>gH.f k y0 e) e.Fired (by have:=h.fired.1;omega) (fun f hf=>by
  obtain⟨h1,h2,h3⟩:=h.fired.2 f hf
  have hid:f.Occ.Ids.length≤24:=co ((eW f.Occ).1 h2).2.2.2.2
  obtain⟨z,q1,_,q3⟩:=wN h3 qom
  have e1:bw.f f.Rule 0 (IntKind.wrap .i64 ((e.Rules.length:Int)-1))=some true:=by
   rw[wr _ qom]
   simp only[fi,qzh,qzf,decide_eq_true_eq];omega
  simp only[gH.f,e1,qzb,if_true]
  rw[ny f.Occ qom k qom,h2]
  simp only[qzb,if_true,q1,qzh,ym,decide_eq_true_eq]
  exact q3)]
 rfl
theorem Fo {a b:GOcc} (h:a.To<b.To):bK a b=true:=(CQ a b).2 (.inl h)
theorem C1 {l m:List GOcc} (hl:Asc l) (hm:Asc m) (h:∀x∈l,∀y∈m,x.To<y.To):Asc (l++m):=List.pairwise_append.2 ⟨hl,hm,fun x hx y hy=>Fo (h x hx y hy)⟩
def ja (ns:List GNode):Int:=(ns.getLast?.map (·.Many)).getD 0
theorem xc {T:Int} {mode seen t:Int} {ev:Option Int} {es:List GEx} {ns:List GNode} (hR:Rep es ns) (h1:1≤ns.length):ja (ax mode seen t ev ns).1=ja ns+((gP (ax mode seen t ev ns).2).length:Nat):=by
 have pl:=gx mode seen t ev ns
 have hi:ns.length-1<ns.length:=by omega
 obtain⟨p1,p2⟩:=nf (mode:=mode) (seen:=seen) (t:=t) (ev:=ev) hR (qzc hi)
 have k5:=(kg (mode:=mode) (seen:=seen) (t:=t) (ev:=ev) (found:=(ax mode seen t ev ns).2) (n:=ns[ns.length-1])).2.2.2.2
 unfold ja gP
 rw[qzS,qzS,qzS,pl.1,pl.2,p1,p2,qzc hi]
 simp only[qzL,vo]
 show(aw mode seen t ev (ax mode seen t ev ns).2 ns[ns.length-1]).1.Many+_=_
 rw[k5]
theorem zb {mode seen before:Int} {es:List GEx} (hs:0≤seen∧seen≤23) (T0:Int):∀(f:Nat) (ns:List GNode) (out:List GOcc) (T:Int),gj T es ns→T0≤T→T<before→(before-T).toNat≤f→Asc out→(∀o∈out,T0<o.To∧o.To≤T)→
  (cK mode seen before f ns out).2.1=false→Asc (cK mode seen before f ns out).2.2∧(∀o∈(cK mode seen before f ns out).2.2,T0<o.To∧o.To<before)∧ja (cK mode seen before f ns out).1+(out.length:Nat)=ja ns+((cK mode seen before f ns out).2.2.length:Nat)
 |0,ns,out,T,h,_,hT,hf,_,_,_=>by omega
 |f+1,ns,out,T,h,h0,hT,hf,ha,ho,hno=>by
  have nl:=oB ns before
  unfold cK at hno⊢
  by_cases hlt:bX ns before<before
  ·rw[if_pos hlt] at hno⊢
   by_cases hfu:dy (ax mode seen (bX ns before) none ns).1=true
   ·rw[if_pos hfu] at hno;cases hno
   ·rw[if_neg hfu] at hno⊢
    have hT':T<bX ns before:=by
     rcases ov ns before with q|⟨n,q1,o,q2,q3⟩
     ·omega
     ·rw[q3];exact((h.2.2 n q1).2.2.2.1 o q2).1
    have hfu':dy (ax mode seen (bX ns before) none ns).1=false:=by simpa using hfu
    have hR:=h.ready (t:=bX ns before) qom
    have pi:=mV (mode:=mode) (ev:=none) h (Int.le_of_lt hT') nl.2 hs hfu'
    obtain⟨e,_,lf⟩:=lw (mode:=mode) (ev:=none) hR h.2.1.1 hs
    have rp:=xc (T:=T) (mode:=mode) (seen:=seen) (t:=bX ns before) (ev:=none) h.1 h.2.1.1
    obtain⟨a,b,c⟩:=zb (mode:=mode) hs T0 f _ (out++gP (ax mode seen (bX ns before) none ns).2) (bX ns before) pi qom hlt qom
     (C1 ha lf.1 (fun x hx y hy=>by rw[lf.2.2.2 y hy];have:=(ho x hx).2;omega))
     (fun o hh=>by rcases List.mem_append.1 hh with q|q;exact⟨(ho o q).1,by have:=(ho o q).2;omega⟩;rw[lf.2.2.2 o q];omega) hno
    refine⟨a,b,?_⟩
    rw[qzg] at c
    omega
  ·rw[if_neg hlt] at hno⊢
   exact⟨ha,fun o hh=>⟨(ho o hh).1,by have:=(ho o hh).2;omega⟩,rfl⟩
theorem Fc {mode seen:Int} {es:List GEx} {ns ns':List GNode} {e:GEv} {out:List GOcc} {T:Int} (h:gj T es ns) (hT:0≤T∧T<e.At∧e.At≤1000) (hs:0≤seen∧seen≤23) (hst:iv mode seen ns e=some (ns',out)) :
  gj e.At es ns'∧Ids out∧Asc out∧(∀o∈out,T<o.To∧o.To≤e.At)∧ja ns'=ja ns+(out.length:Nat)∧0≤ja ns∧ja ns'≤40:=by
 obtain⟨i1,i2,_⟩:=GD h hT hs hst
 unfold iv at hst
 split at hst
 ·cases hst
 split at hst
 ·cases hst
 rename_i h1 h2
 cases hst
 obtain⟨T',a,b,c,d,f,g⟩:=oQ (mode:=mode) (before:=e.At) hs 1001 ns [] T h hT.2.1 qom (fun o hh=>by simp at hh) (by simp) (by simpa using h1)
 obtain⟨m1,m2,m3⟩:=zb (mode:=mode) (before:=e.At) hs T 1001 ns [] T h (ml _) hT.2.1 qom (by simp[Asc]) (fun o hh=>by simp at hh) (by simpa using h1)
 have hR:=c.ready (t:=e.At) qom
 obtain⟨x,_,lf⟩:=lw (mode:=mode) (ev:=some e.Sym) hR c.2.1.1 hs
 have rp:=xc (T:=T) (mode:=mode) (seen:=seen) (t:=e.At) (ev:=some e.Sym) c.1 c.2.1.1
 refine⟨i1,i2,C1 m1 lf.1 (fun x hx y hy=>by rw[lf.2.2.2 y hy];exact(m2 x hx).2),fun o hh=>?_,?_,?_,?_⟩
 ·rcases List.mem_append.1 hh with q|q
  ·have:=m2 o q;omega
  ·rw[lf.2.2.2 o q];omega
 ·rw[rp,qzg]
  simp only[u9] at m3
  omega
 ·unfold ja
  cases hq:ns.getLast? with
  |none=>simp
  |some m=>have:=(h.2.2 m (Bf hq)).2.1.1;simpa using this
 ·unfold ja
  cases hq:(ax mode seen e.At (some e.Sym) (cK mode seen e.At 1001 ns []).1).1.getLast? with
  |none=>simp
  |some m=>have:=(i1.2.2 m (Bf hq)).2.1.2;simpa using this
theorem EZ:∀e:GEx,exN e≤1000000→∀k:Nat,1000000000000+exN e≤k→bO.f k e=some e:=by
 refine jE fun e ih hn k hk=>?_
 rw[dI] at hn hk
 obtain⟨k,rfl⟩:=qsc k
 have hq:=ig e.Kids
 have:=ic e.Kids id (bO.l0 k (bO.f k) e) (fun N acc=>by rw[bO.l0,if_neg qom])
  (fun N acc i h ha=>by
   have hm:=eR (qze h)
   rw[bO.l0,if_pos qom,ac qom,qzd,qzc h]
   simp only[qzb]
   rw[ih _ (qze h) qom k qom]
   simp only[qzb]
   rw[ac qom,wrS i qom];rfl) k qom
 rw[bO.f,this,qV];cases e;rfl
theorem Bn (k:Nat) (hk:2000000000000≤k) (l:List GRule) (hl:l.length≤1000000) (h:∀r∈l,exN r.Ex≤1000000):cw.f k l=some l:=by
 have:=ic l id (cw.l0 k l) (fun N acc=>by rw[cw.l0,if_neg qom])
  (fun N acc i hi ha=>by
   have hm:=h _ (qze hi)
   rw[cw.l0,if_pos qom,ac qom,qzd,qzc hi]
   simp only[qzb,jF.f]
   rw[EZ _ hm k qom]
   simp only[qzb]
   rw[ac qom,wrS i qom]
   generalize l[i]=z
   obtain⟨a,b,c,⟨d1,d2,d3,d4⟩,e,f,g,u,v⟩:=z
   rfl) k qom
 unfold cw.f
 rw[this,qV];rfl
theorem sb (k:Nat) (hk:2000000000000≤k) (l:List GFire) (hl:l.length≤1000000) (h:∀f∈l,Few f.Occ):cg.f k l=some l:=by
 have:=ic l id (cg.l0 k l) (fun N acc=>by rw[cg.l0,if_neg qom])
  (fun N acc i hi ha=>by
   rw[cg.l0,if_pos qom,ac qom,qzd,qzc hi]
   simp only[qzb]
   rw[tZ _ (h _ (qze hi))]
   simp only[qzb]
   rw[ac qom,wrS i qom];rfl) k qom
 unfold cg.f
 rw[this,qV];rfl
def DH (n:GNode):Prop:=n.Kids.length≤1000∧(∀l∈[n.Pair.Left,n.Pair.Right,n.Span.Left,n.Span.Mid,n.Due],l.length≤1000∧fZ l)
theorem CK (k:Nat) (hk:1000000000000≤k) (n:GNode) (h:DH n):gW.f k n=some n:=by
 have c:∀l∈[n.Pair.Left,n.Pair.Right,n.Span.Left,n.Span.Mid,n.Due],bI.f k l=some l:=fun l hl=>Cr k hk l (by have:=(h.2 l hl).1;omega) (h.2 l hl).2
 have h1:=h.1
 unfold gW.f jD.f jH.f
 rw[ac qom,c _ (by simp),c _ (by simp),c _ (by simp),c _ (by simp),c _ (by simp)]
 rfl
theorem AN (k:Nat) (hk:1000000000000≤k) (g:GGraph) (hl:g.Nodes.length≤1000) (h:∀n∈g.Nodes,DH n):ci.f k g=some g:=by
 have:=ic g.Nodes id (ci.l0 k g) (fun N acc=>by rw[ci.l0,if_neg qom])
  (fun N acc i hi ha=>by
   rw[ci.l0,if_pos qom,ac qom,qzd,qzc hi]
   simp only[qzb]
   rw[CK k hk _ (h _ (qze hi))]
   simp only[qzb]
   rw[ac qom,wrS i qom];rfl) k qom
 unfold ci.f
 rw[this,qV];rfl
theorem iB.slim {now:Int} {seen:Nat} {g:GGraph} (h:iB now seen g):g.Nodes.length≤12∧∀n∈g.Nodes,DH n:=by
 obtain⟨es,hi⟩:=h.inv
 refine⟨hi.2.1.2,fun n hn=>⟨by have:=hi.1.kids3 n hn;omega,?_⟩⟩
 obtain⟨o1,o2,o3,o4,o5⟩:=mq hi hn (h.made n hn) h.late
 intro l hl
 simp only[qzo,sP,or_false] at hl
 have one:∀{l},dA l=true→l.length≤1000∧fZ l:=fun q=>⟨by have:=jg q;omega,qQ q⟩
 rcases hl with rfl|rfl|rfl|rfl|rfl
 ·exact one o1
 ·exact one o2
 ·exact one o3
 ·exact one o4
 ·exact one o5
theorem Dr (l:List GEv) (hl:l.length≤1000):jp.f l=some l:=by
 unfold jp.f;rw[ac qom]
theorem o9 (k:Nat) (hk:2000000000000≤k) {e:GEng} (h:fR e):bW.f k e=some e:=by
 have hev:=dV h.evs
 have hfew:=gy h.rules
 have hlen:=h.len
 have hf:=h.fired.1
 have hk4:=h.keys.1
 have:=ic e.Graphs id (bW.l0 k e) (fun N acc=>by rw[bW.l0,if_neg qom])
  (fun N acc i hi ha=>by
   have g:=(h.graphs _ (qze hi)).slim
   rw[bW.l0,if_pos qom,ac qom,qzd,qzc hi]
   simp only[qzb]
   rw[AN k qom _ qom g.2]
   simp only[qzb]
   rw[ac qom,wrS i qom];rfl) k qom
 unfold bW.f
 rw[Bn k hk e.Rules qom (fun r hr=>(dp h.rules hr).small.2),Dr e.Events qom]
 simp only[qzb]
 rw[ac qom,sb k hk e.Fired qom (fun f hf=>by
  have:=co ((eW f.Occ).1 (h.fired.2 f hf).2.1).2.2.2.2
  show f.Occ.Ids.length≤1000;omega)]
 simp only[qzb]
 rw[this,qV];rfl
/-- the graph of a rule, before anything has happened -/
def BZ (r:GRule):GGraph:=⟨r.Mode,(fY r.Ex []).2,0,0,false⟩
def qD (l:List GRule):GEng:=⟨l,l.map BZ,[],G8,[]⟩
theorem FP {r:GRule} (h:wA r):iB 0 0 (BZ r):=by
 have hf:=sk h.ex
 obtain⟨es,hG,_⟩:=EO (x:=r.Ex) ⟨hf.2,hf.1⟩
 obtain⟨es',nx,a1,a2,a3,a4,_⟩:=CT r.Ex ⟨hf.2,hf.1⟩ [] [] yb
 rw[qzO] at a1
 refine⟨⟨es,hG⟩,by omega,rfl,rfl,by omega,h.mode,rfl,fun n hn=>?_⟩
 have hn':n∈nx:=by rw[←a1];exact hn
 obtain⟨f1,f2,f3,f4⟩:=a4 n hn'
 unfold ku
 rw[f1,f2,f3]
 exact⟨All.nil,All.nil,All.nil,All.nil,All.nil⟩
theorem HI {l:List GRule} (h:dQ l=true):fR (qD l):=by
 refine⟨h,by simp[qD],rfl,fun g hg=>?_,⟨rfl,fun x hx=>?_⟩,by simp[qD],fun f hf=>by simp[qD] at hf⟩
 ·obtain⟨r,hr,rfl⟩:=List.mem_map.1 hg
  exact FP (dp h hr)
 ·have:x=0:=by simp[qD,G8] at hx;exact hx
  omega
def fm (o:GOcc):Int:=o.Ids.getLast?.getD 0
theorem Ih {s:Int} {o:GOcc} (h:eH s o) (hl:o.Ids.length≤1000):dK.f o=some (fm o)∧fm o∈o.Ids:=by
 have h1:=List.length_pos_iff.2 h.2.2.1
 obtain⟨m,hm⟩:∃m,o.Ids.length=m+1:=⟨o.Ids.length-1,by omega⟩
 unfold dK.f fm
 rw[qzS,hm,wrP m qom,ac qom,qzd,Nat.add_sub_cancel,qzc qom]
 exact⟨rfl,qze _⟩
def eb (e:GEng) (i:Nat) (o:GOcc) (q:Graiser):Int×GEng×Graiser:=
 match e.Rules[i]?,e.Events[(fm o).toNat]? with
 |some r,some x=>if r.Low≤x.Val∧x.Val≤r.High then
   (if 0≤e.Keys.getD r.Key.toNat 0+r.Add∧e.Keys.getD r.Key.toNat 0+r.Add≤1000 then
    (if r.Raise<0 then(0,⟨e.Rules,e.Graphs,e.Events,e.Keys.set r.Key.toNat (e.Keys.getD r.Key.toNat 0+r.Add),e.Fired++[⟨(i:Int),o⟩]⟩,q)
     else if q.raised=6 then(1,⟨e.Rules,e.Graphs,e.Events,e.Keys.set r.Key.toNat (e.Keys.getD r.Key.toNat 0+r.Add),e.Fired++[⟨(i:Int),o⟩]⟩,q)
     else(0,⟨e.Rules,e.Graphs,e.Events,e.Keys.set r.Key.toNat (e.Keys.getD r.Key.toNat 0+r.Add),e.Fired++[⟨(i:Int),o⟩]⟩,⟨q.queue++[⟨r.Raise,0,x.Val⟩],q.raised+1⟩))
    else(3,e,q))
  else(0,e,q)
 |_,_=>(0,e,q)
def fN (i:Nat):List GOcc→GEng→Graiser→Int×GEng×Graiser
 |[],e,q=>(0,e,q)
 |o::l,e,q=>if(eb e i o q).1=0 then fN i l (eb e i o q).2.1 (eb e i o q).2.2 else eb e i o q
def kU (x:GEv) (i:Nat) (e:GEng) (q:Graiser):Int×GEng×Graiser:=match e.Graphs[i]? with
 |some g=>(match iv g.Mode g.Seen g.Nodes x with
  |some r=>fN i r.2 ⟨e.Rules,e.Graphs.set i ⟨g.Mode,r.1,g.Seen+1,x.At,false⟩,e.Events,e.Keys,e.Fired⟩ q
  |none=>(2,⟨e.Rules,e.Graphs.set i ⟨g.Mode,[],g.Seen+1,x.At,true⟩,e.Events,e.Keys,e.Fired⟩,q))
 |none=>(0,e,q)
def fP (x:GEv):List Int→GEng→Graiser→Int×GEng×Graiser
 |[],e,q=>(0,e,q)
 |i::l,e,q=>if(kU x i.toNat e q).1=0 then fP x l (kU x i.toNat e q).2.1 (kU x i.toNat e q).2.2 else kU x i.toNat e q
def bg (e:GEng) (x:GEv) (q:Graiser):Int×GEng×Graiser:=
 if e.Events.length=24∨1000<x.At then(2,e,q) else fP x (eF e.Rules) ⟨e.Rules,e.Graphs,e.Events++[x],e.Keys,e.Fired⟩ q
def cq:Nat→GEng→Graiser→Int→Int×GEng
 |0,e,_,_=>(0,e)
 |f+1,e,q,s=>match q.queue with
  |[]=>(0,e)
  |x::r=>if(bg e ⟨x.Sym,aL e.Events+s,x.Val⟩ ⟨r,q.raised⟩).1=0 then cq f (bg e ⟨x.Sym,aL e.Events+s,x.Val⟩ ⟨r,q.raised⟩).2.1 (bg e ⟨x.Sym,aL e.Events+s,x.Val⟩ ⟨r,q.raised⟩).2.2 1
   else((bg e ⟨x.Sym,aL e.Events+s,x.Val⟩ ⟨r,q.raised⟩).1,(bg e ⟨x.Sym,aL e.Events+s,x.Val⟩ ⟨r,q.raised⟩).2.1)
def cZ (e:GEng) (sym gap val:Int):GEng×Int×List GFire:=
 if(cq 8 e ⟨[⟨sym,0,val⟩],0⟩ gap).1=0 then((cq 8 e ⟨[⟨sym,0,val⟩],0⟩ gap).2,0,(cq 8 e ⟨[⟨sym,0,val⟩],0⟩ gap).2.Fired.drop e.Fired.length)
 else(e,(cq 8 e ⟨[⟨sym,0,val⟩],0⟩ gap).1,[])
/-- what is kept while rules fire -/
structure Own (c:Nat) (e:GEng):Prop where
 rules:dQ e.Rules=true
 evs:fH e.Events=true
 keys:e.Keys.length=4∧∀x∈e.Keys,0≤x∧x≤1000
 fired:e.Fired.length≤c∧∀f∈e.Fired,(0≤f.Rule∧f.Rule<e.Rules.length)∧dx f.Occ=true∧eH e.Events.length f.Occ
structure QI (m:Int) (q:Graiser):Prop where
 evs:∀e∈q.queue,0≤e.Sym∧e.Sym<5∧0≤e.Val∧e.Val≤100
 raised:0≤q.raised∧q.raised≤6
 sum:(q.queue.length:Int)+6≤m+q.raised
/-- what firing leaves as it was -/
structure kZ (e f:GEng):Prop where
 rules:f.Rules=e.Rules
 graphs:f.Graphs=e.Graphs
 evs:f.Events=e.Events
 fired:∃more,f.Fired=e.Fired++more
theorem kZ.refl (e:GEng):kZ e e:=⟨rfl,rfl,rfl,[],by simp⟩
theorem kZ.trans {a b c:GEng} (h:kZ a b) (g:kZ b c):kZ a c:=by
 obtain⟨m,hm⟩:=h.fired
 obtain⟨n,hn⟩:=g.fired
 exact⟨g.rules.trans h.rules,g.graphs.trans h.graphs,g.evs.trans h.evs,m++n,by rw[hn,hm,qzl]⟩
theorem E2 {l:List GEv} (h:fH l=true) {x:GEv} (hx:x∈l):0≤x.Val∧x.Val≤100:=by
 have:=vr h hx
 unfold jY at this
 simp only[qzf,decide_eq_true_eq] at this
 omega
theorem GR {l:List Int} (h:l.length=4∧∀x∈l,0≤x∧x≤1000) (i:Nat) {v:Int} (hv:0≤v∧v≤1000):(l.set i v).length=4∧∀x∈l.set i v,0≤x∧x≤1000:=by
 refine⟨by rw[List.length_set];exact h.1,fun x hx=>?_⟩
 rcases List.mem_or_eq_of_mem_set hx with q|q
 ·exact h.2 x q
 ·rw[q];exact hv
theorem EH {c:Nat} {m:Int} {e:GEng} {q:Graiser} (h:Own c e) (hc:c≤900000) (hq:QI m q) (hm:m≤100) {i:Nat} (hi:i<e.Rules.length) {o:GOcc} (ho:dx o=true) (hmd:eH e.Events.length o) :
  jm.f e (i:Int) o q=some (eb e i o q)∧Own (c+1) (eb e i o q).2.1∧kZ e (eb e i o q).2.1∧QI m (eb e i o q).2.2:=by
 have hids:=((eW o).1 ho).2.2.2.2
 have hil:=co hids
 obtain⟨lk,lm⟩:=Ih hmd qom
 have l0:=(hids.2 _ lm).1
 have l1:=hmd.2.2.2 _ lm
 have hlt:(fm o).toNat<e.Events.length:=by omega
 have hr:=dp h.rules (qze hi)
 have hev:=E2 h.evs (qze hlt)
 have hkl:=h.keys.1
 have hkey:=hr.key
 have hadd:=hr.add
 have hraise:=hr.raise
 have hfl:=h.fired.1
 have hkn:(e.Rules[i]).Key.toNat<e.Keys.length:=by omega
 have hk0:=h.keys.2 _ (qze hkn)
 have hg:e.Keys.getD (e.Rules[i]).Key.toNat 0=e.Keys[(e.Rules[i]).Key.toNat]:=by rw[qzt,qzc hkn];rfl
 have hz:Own (c+1) e:=⟨h.rules,h.evs,h.keys,by omega,h.fired.2⟩
 unfold jm.f iI.f eb
 rw[ac qom,qzd,qzc hi,lk,qzc hlt]
 simp only[qzb]
 rw[ac qom,qzc hlt]
 simp only[qzb]
 rw[fi]
 simp only[qzb]
 by_cases h1:(e.Rules[i]).Low≤(e.Events[(fm o).toNat]).Val∧(e.Events[(fm o).toNat]).Val≤(e.Rules[i]).High
 rotate_left
 ·rw[if_neg (by simpa using h1),if_neg h1]
  exact⟨rfl,hz,kZ.refl e,hq⟩
 rw[if_pos (by simpa using h1),if_pos h1,ac qom,ac qom,qzc hkn]
 simp only[qzb]
 rw[wr _ qom,fi,hg]
 simp only[qzb]
 by_cases h2:0≤e.Keys[(e.Rules[i]).Key.toNat]+(e.Rules[i]).Add∧e.Keys[(e.Rules[i]).Key.toNat]+(e.Rules[i]).Add≤1000
 rotate_left
 ·rw[if_neg (by simpa using h2),if_neg h2]
  exact⟨rfl,hz,kZ.refl e,hq⟩
 rw[if_pos (by simpa using h2),if_pos h2,ac qom,ac qom,ac qom,ac qom,ac qom]
 have hown:Own (c+1) ⟨e.Rules,e.Graphs,e.Events,e.Keys.set (e.Rules[i]).Key.toNat (e.Keys[(e.Rules[i]).Key.toNat]+(e.Rules[i]).Add),e.Fired++[⟨(i:Int),o⟩]⟩:=by
  refine⟨h.rules,h.evs,GR h.keys _ h2,by rw[qzg,qzq];omega,fun f hf=>?_⟩
  rcases List.mem_append.1 hf with p|p
  ·exact h.fired.2 f p
  ·rw[List.mem_singleton.1 p];exact⟨⟨by show(0:Int)≤(i:Int);omega,by show(i:Int)<(e.Rules.length:Nat);omega⟩,ho,hmd⟩
 have hsame:kZ e ⟨e.Rules,e.Graphs,e.Events,e.Keys.set (e.Rules[i]).Key.toNat (e.Keys[(e.Rules[i]).Key.toNat]+(e.Rules[i]).Add),e.Fired++[⟨(i:Int),o⟩]⟩:=⟨rfl,rfl,rfl,_,rfl⟩
 by_cases h3:(e.Rules[i]).Raise<0
 ·rw[if_pos h3,if_pos h3]
  exact⟨rfl,hown,hsame,hq⟩
 rw[if_neg h3,if_neg h3]
 by_cases h4:q.raised=6
 ·rw[if_pos h4,if_pos h4]
  exact⟨rfl,hown,hsame,hq⟩
 rw[if_neg h4,if_neg h4]
 have hqr:=hq.raised
 have hqs:=hq.sum
 rw[ac qom,wr _ qom]
 refine⟨rfl,hown,hsame,fun x hx=>?_,by dsimp only;omega,by dsimp only;rw[qzg,qzq];omega⟩
 rcases List.mem_append.1 hx with p|p
 ·exact hq.evs x p
 ·rw[List.mem_singleton.1 p];dsimp only;omega
abbrev Flat:=(List GRule)×(List GGraph)×(List GEv)×(List Int)×(List GFire)×(List GEv)×Int
def Hh (e:GEng) (q:Graiser):Flat:=(e.Rules,e.Graphs,e.Events,e.Keys,e.Fired,q.queue,q.raised)
def exM (r:Int×GEng×Graiser):Except (Int×GEng×Graiser) Flat:=if r.1=0 then .ok (Hh r.2.1 r.2.2) else .error r
theorem Dh (k:Nat) (i:Nat) (y:(List GOcc)×GGraph) (m:Int) (hm:m≤100) (hy:y.1.length≤1000):∀(d j N:Nat) (e:GEng) (q:Graiser) (c:Nat),j+d=y.1.length→d<N→Own c e→c+d≤900000→QI m q→i<e.Rules.length→(∀o∈y.1,dx o=true∧eH e.Events.length o)→
  aV.l3 k (i:Int) y N e.Rules e.Graphs e.Events e.Keys e.Fired q.queue q.raised (j:Int)=some (exM (fN i (y.1.drop j) e q))∧Own (c+d) (fN i (y.1.drop j) e q).2.1∧kZ e (fN i (y.1.drop j) e q).2.1∧QI m (fN i (y.1.drop j) e q).2.2:=by
 intro d
 induction d with
 |zero=>
  intro j N e q c hj hN ho hc hq hi hF
  obtain⟨N,rfl⟩:=qsc N
  rw[aV.l3,if_neg qom,qzn qom]
  exact⟨rfl,ho,kZ.refl e,hq⟩
 |succ d ih=>
  intro j N e q c hj hN ho hc hq hi hF
  obtain⟨N,rfl⟩:=qsc N
  have hlt:j<y.1.length:=by omega
  have hf:=hF _ (qze hlt)
  obtain⟨f1,f2,f3,f4⟩:=EH ho qom hq hm hi hf.1 hf.2
  rw[aV.l3,if_pos qom,ac qom,ac qom,qzd,qzc hlt]
  simp only[qzb]
  rw[show(⟨e.Rules,e.Graphs,e.Events,e.Keys,e.Fired⟩:GEng)=e from rfl,show(⟨q.queue,q.raised⟩:Graiser)=q from rfl,f1]
  simp only[qzb]
  rw[qzj hlt]
  unfold fN
  by_cases h0:(eb e i y.1[j] q).1=0
  ·rw[if_pos h0,if_pos h0,wrS j qom]
   obtain⟨g1,g2,g3,g4⟩:=ih (j+1) N (eb e i y.1[j] q).2.1 (eb e i y.1[j] q).2.2 (c+1) qom qom f2 qom f4 (by rw[f3.rules];exact hi) (fun o hh=>by rw[f3.evs];exact hF o hh)
   exact⟨g1,by rw[show c+(d+1)=c+1+d by omega];exact g2,f3.trans g3,g4⟩
  ·rw[if_neg h0,if_neg h0]
   refine⟨?_,⟨f2.rules,f2.evs,f2.keys,by have:=f2.fired.1;omega,f2.fired.2⟩,f3,f4⟩
   unfold exM
   rw[if_neg h0]
theorem Hx {T:Int} {es:List GEx} {ns:List GNode} (h:gj T es ns):∀n∈ns,0≤n.N:=fun n hn=>by
 obtain⟨i,hi,rfl⟩:=List.mem_iff_getElem.1 hn
 obtain⟨e,he,hx,hR⟩:=h.1.2 i ns[i] (qzc hi)
 have hh:eI e=true:=by have:=hx.1;rw[iS] at this;simp only[qzf] at this;exact this.1
 unfold eI at hh
 simp only[qzf,decide_eq_true_eq,sW] at hh
 have hN:=hh.2
 rw[hR.2.2.1]
 split at hN
 ·simp only[qzf,decide_eq_true_eq] at hN;omega
 ·simp only[decide_eq_true_eq] at hN;omega
/-- an event at a rule's graph -/
theorem wL (k:Nat) (hk:1000000000000≤k) {now:Int} {seen:Nat} {g:GGraph} (h:iB now seen g) (hs:seen≤23) {x:GEv} (hx:now<x.At∧x.At≤1000) :
  cf.f k g x=some (match iv g.Mode g.Seen g.Nodes x with|none=>([],⟨g.Mode,[],g.Seen+1,x.At,true⟩)|some r=>(r.2,⟨g.Mode,r.1,g.Seen+1,x.At,false⟩))∧
  ∀r,iv g.Mode g.Seen g.Nodes x=some r→iB x.At (seen+1) ⟨g.Mode,r.1,g.Seen+1,x.At,false⟩∧r.2.length≤40∧(∀o∈r.2,dx o=true∧eH ((seen+1:Nat):Int) o)∧Asc r.2∧(∀o∈r.2,now<o.To∧o.To≤x.At)∧ja r.1=ja g.Nodes+(r.2.length:Nat)∧0≤ja g.Nodes∧ja r.1≤40:=by
 obtain⟨es,hi⟩:=h.inv
 have hl:=h.late
 have hse:=h.seen'
 have hT:0≤now∧now<x.At∧x.At≤1000:=⟨hl.1,hx.1,hx.2⟩
 have hS:0≤g.Seen∧g.Seen≤23:=by omega
 refine⟨HK k hk x g es now hi hT hS h.full,fun r hr=>?_⟩
 obtain⟨r1,r2⟩:=r
 obtain⟨m1,m2,m3,m4,m5,m6,m7⟩:=Fc hi hT hS hr
 have hN:=Hx hi
 obtain⟨a1,a2,a3⟩:=Gx (DE ((seen+1:Nat):Int)) (mode:=g.Mode) (seen:=g.Seen) (e:=x) (ns:=g.Nodes) ⟨by dsimp only;omega,by dsimp only;omega,by simp,fun z hz=>by rw[List.mem_singleton.1 hz];omega⟩ (fun n hn o ho=>Ev (hN n hn) ho)
  (fun n hn=>by
   obtain⟨b1,b2,b3,b4,b5⟩:=h.made n hn
   have mn:∀{l},All (eH seen) l→All (eH ((seen+1:Nat):Int)) l:=fun q o ho=>(q o ho).mono qom
   exact⟨mn b1,mn b2,mn b3,mn b4,mn b5⟩) hr
 refine⟨⟨⟨es,m1⟩,by omega,rfl,by dsimp only;omega,by omega,h.mode,rfl,a2⟩,by dsimp only at m5 m7⊢;omega,fun o ho=>⟨?_,a3 o ho⟩,m3,m4,m5,m6,m7⟩
 have md:=a3 o ho
 have mt:=m4 o ho
 exact(eW o).2 ⟨md.1,md.2.1,by omega,by have:=List.length_pos_iff.2 md.2.2.1;omega,m2 o ho⟩
structure Mid (e0:GEng) (x:GEv) (left:List Int) (e:GEng):Prop where
 rules:e.Rules=e0.Rules
 evs:e.Events=e0.Events++[x]
 len:e.Graphs.length=e0.Rules.length
 old:∀i:Nat,(i:Int)∈left→e.Graphs[i]? =e0.Graphs[i]?
 new:∀i:Nat,(i:Int)∉left→∀g,e.Graphs[i]? =some g→iB x.At (e0.Events.length+1) g
theorem Db (k:Nat) (hk:1000000000000≤k) {e0:GEng} (h0:fR e0) {x:GEv} (hx:aL e0.Events<x.At∧x.At≤1000) (h23:e0.Events.length≤23) (m:Int) (hm:m≤100) (os:List Int) (hos:∀i∈os,∃j:Nat,j<e0.Rules.length∧i=j) (hnd:os.Nodup) (hol:os.length≤4) :
  ∀(d j N:Nat) (e:GEng) (q:Graiser) (c:Nat),j+d=os.length→d<N→Mid e0 x (os.drop j) e→Own c e→c+40 * d≤800000→QI m q→
  aV.l2 k x os N e.Rules e.Graphs e.Events e.Keys e.Fired q.queue q.raised (j:Int)=some (exM (fP x (os.drop j) e q))∧
  ((fP x (os.drop j) e q).1=0→Mid e0 x [] (fP x (os.drop j) e q).2.1∧Own (c+40 * d) (fP x (os.drop j) e q).2.1∧QI m (fP x (os.drop j) e q).2.2∧∃more,(fP x (os.drop j) e q).2.1.Fired=e.Fired++more):=by
 intro d
 induction d with
 |zero=>
  intro j N e q c hj hN hM ho hc hq
  obtain⟨N,rfl⟩:=qsc N
  rw[qzn qom] at hM⊢
  rw[aV.l2,if_neg qom]
  exact⟨rfl,fun _=>⟨hM,ho,hq,[],by simp[fP]⟩⟩
 |succ d ih=>
  intro j N e q c hj hN hM ho hc hq
  obtain⟨N,rfl⟩:=qsc N
  have hlt:j<os.length:=by omega
  obtain⟨i,hi,he⟩:=hos _ (qze hlt)
  have hdrop:os.drop j=(i:Int)::os.drop (j+1):=by rw[qzj hlt,he]
  have hnot:(i:Int)∉os.drop (j+1):=by
   have:(os.drop j).Nodup:=hnd.sublist (List.drop_sublist j os)
   rw[hdrop] at this
   exact(List.nodup_cons.1 this).1
  rw[hdrop] at hM⊢
  have hgl:=hM.len
  have hig:i<e.Graphs.length:=by omega
  have hig0:i<e0.Graphs.length:=by rw[h0.len];exact hi
  have hge:e.Graphs[i]? =some e0.Graphs[i]:=by rw[hM.old i (by simp),qzc hig0]
  obtain⟨s1,s2⟩:=wL k hk (h0.graphs _ (qze hig0)) h23 hx
  rw[aV.l2,if_pos qom,ac qom,ac qom,qzd,qzc hlt]
  simp only[qzb]
  rw[he,ac qom,ac qom,qzd,hge]
  simp only[qzb]
  rw[s1]
  unfold fP kU
  rw[qzd,hge]
  simp only[]
  cases hst:iv e0.Graphs[i].Mode e0.Graphs[i].Seen e0.Graphs[i].Nodes x with
  |none=>
   simp only[qzb,if_true]
   rw[if_neg (show ¬(2:Int)=0 by decide)]
   refine⟨?_,fun q=>by simp at q⟩
   unfold exM
   rw[if_neg (show ¬(2:Int)=0 by decide)]
  |some r=>
   obtain⟨t1,t2,t3,t4,t5,t6⟩:=s2 r hst
   simp only[qzb,qzw,if_false]
   have hev:e.Events.length=e0.Events.length+1:=by rw[hM.evs,qzg,qzq]
   obtain⟨f1,f2,f3,f4⟩:=Dh k i (r.2,⟨e0.Graphs[i].Mode,r.1,e0.Graphs[i].Seen+1,x.At,false⟩) m hm (by dsimp only;omega) r.2.length 0 k ⟨e.Rules,e.Graphs.set i ⟨e0.Graphs[i].Mode,r.1,e0.Graphs[i].Seen+1,x.At,false⟩,e.Events,e.Keys,e.Fired⟩ q c (by simp) qom ⟨ho.rules,ho.evs,ho.keys,ho.fired⟩ qom hq (by rw[hM.rules];exact hi) (fun o hh=>by
    have:=t3 o hh
    refine⟨this.1,?_⟩
    rw[hev];exact this.2)
   simp only[qzB] at f1 f2 f3 f4
   rw[show((0:Nat):Int)=0 from rfl] at f1
   rw[f1]
   unfold exM
   by_cases hz:(fN i r.2 ⟨e.Rules,e.Graphs.set i ⟨e0.Graphs[i].Mode,r.1,e0.Graphs[i].Seen+1,x.At,false⟩,e.Events,e.Keys,e.Fired⟩ q).1=0
   ·rw[if_pos hz,if_pos hz]
    simp only[qzb,Hh]
    rw[wrS j qom]
    have hgr:=f3.graphs
    have hmid:Mid e0 x (os.drop (j+1)) (fN i r.2 ⟨e.Rules,e.Graphs.set i ⟨e0.Graphs[i].Mode,r.1,e0.Graphs[i].Seen+1,x.At,false⟩,e.Events,e.Keys,e.Fired⟩ q).2.1:=by
     refine⟨f3.rules.trans hM.rules,f3.evs.trans hM.evs,by rw[hgr,List.length_set];exact hgl,fun a ha=>?_,fun a ha g hg=>?_⟩
     ·rw[hgr,xA (by intro q;subst q;exact hnot ha)]
      exact hM.old a (by simp[ha])
     ·rw[hgr] at hg
      by_cases hai:a=i
      ·subst hai
       rw[rY hig] at hg
       cases hg
       exact t1
      ·rw[xA qom] at hg
       exact hM.new a (by simp only[qzo,not_or];exact⟨by omega,ha⟩) g hg
    obtain⟨g1,g2⟩:=ih (j+1) N _ _ (c+r.2.length) qom qom hmid f2 qom f4
    refine⟨g1,fun z=>?_⟩
    obtain⟨p1,p2,p3,more,p4⟩:=g2 z
    obtain⟨more',p5⟩:=f3.fired
    refine⟨p1,⟨p2.rules,p2.evs,p2.keys,by have:=p2.fired.1;omega,p2.fired.2⟩,p3,more'++more,?_⟩
    rw[p4,p5,qzl]
   ·rw[if_neg hz,if_neg hz,if_neg hz]
    exact⟨rfl,fun q=>absurd q hz⟩
theorem pn (k:Nat) (hk:1000000000000≤k) {e:GEng} (h:fR e) {x:GEv} (hx:aL e.Events<x.At∧x.At≤1000000) (hs:0≤x.Sym∧x.Sym<5∧0≤x.Val∧x.Val≤100) (m:Int) (hm:m≤100) {q:Graiser} (hq:QI m q) :
  aV.f k e x q=some (bg e x q)∧((bg e x q).1=0→fR (bg e x q).2.1∧QI m (bg e x q).2.2∧(bg e x q).2.1.Rules=e.Rules∧(bg e x q).2.1.Events=e.Events++[x]∧∃more,(bg e x q).2.1.Fired=e.Fired++more):=by
 have hev:=dV h.evs
 have hfew:=gy h.rules
 have hlast:0≤aL e.Events:=by
  unfold aL
  cases hl:e.Events.getLast? with
  |none=>simp
  |some z=>
   have:=vr h.evs (Bf hl)
   unfold jY at this
   simp only[qzf,decide_eq_true_eq] at this
   dsimp only;omega
 unfold aV.f bg
 by_cases h1:e.Events.length=24
 ·rw[if_pos qom,if_pos (.inl h1)]
  exact⟨rfl,fun q=>by simp at q⟩
 rw[if_neg qom]
 by_cases h2:1000<x.At
 ·rw[if_pos h2,if_pos (.inr h2)]
  exact⟨rfl,fun q=>by simp at q⟩
 rw[if_neg h2,if_neg qom,ac qom,H5 k qom e.Rules hfew (fun r hr=>(dp h.rules hr).pri)]
 simp only[qzb]
 have hev':fH (e.Events++[x])=true:=rv h.evs qom (by
  unfold jY
  simp only[qzf,decide_eq_true_eq];omega) hx.1
 have hmid:Mid e x (eF e.Rules) ⟨e.Rules,e.Graphs,e.Events++[x],e.Keys,e.Fired⟩:=by
  refine⟨rfl,rfl,h.len,fun i hi=>rfl,fun i hi g hg=>?_⟩
  exfalso
  exact hi (jU.2 ⟨i,by have:=(List.getElem?_eq_some_iff.1 hg).1;rw[←h.len];exact this,rfl⟩)
 have hown:Own (500000+2000 * e.Events.length) ⟨e.Rules,e.Graphs,e.Events++[x],e.Keys,e.Fired⟩:=by
  refine⟨h.rules,hev',h.keys,h.fired.1,fun f hf=>?_⟩
  obtain⟨a,b,c⟩:=h.fired.2 f hf
  refine⟨a,b,c.mono ?_⟩
  dsimp only
  rw[qzg,qzq];omega
 obtain⟨r1,r2⟩:=Db k hk h (x:=x) ⟨hx.1,by omega⟩ qom m hm (eF e.Rules) (fun i hi=>jU.1 hi) (mF _) (by rw[fw];exact hfew) (eF e.Rules).length 0 k ⟨e.Rules,e.Graphs,e.Events++[x],e.Keys,e.Fired⟩ q _ qom (by rw[fw];omega) hmid hown (by rw[fw];omega) hq
 simp only[qzB] at r1 r2
 rw[show((0:Nat):Int)=0 from rfl] at r1
 rw[r1]
 unfold exM
 generalize fP x (eF e.Rules) ⟨e.Rules,e.Graphs,e.Events++[x],e.Keys,e.Fired⟩ q=z at r2⊢
 by_cases hz:z.1=0
 ·rw[if_pos hz]
  obtain⟨g1,g2,g3,g4⟩:=r2 hz
  refine⟨?_,fun _=>⟨⟨g2.rules,by rw[g1.len,g1.rules],g2.evs,fun g hg=>?_,g2.keys,?_,g2.fired.2⟩,g3,g1.rules,g1.evs,g4⟩⟩
  ·obtain⟨z1,z2,z3⟩:=z
   dsimp only at hz
   subst hz
   rfl
  ·obtain⟨i,hi,rfl⟩:=List.mem_iff_getElem.1 hg
   have:=g1.new i (by simp) _ (qzc hi)
   rw[g1.evs,Cu,qzg,qzq]
   exact this
  ·have:=g2.fired.1
   rw[fw] at this
   rw[g1.evs,qzg,qzq];omega
 ·rw[if_neg hz]
  exact⟨rfl,fun q=>absurd q hz⟩
theorem ly {l:List GEv} (h:fH l=true):0≤aL l∧aL l≤1000:=by
 unfold aL
 cases hl:l.getLast? with
 |none=>simp
 |some z=>
  have:=vr h (Bf hl)
  unfold jY at this
  simp only[qzf,decide_eq_true_eq] at this
  dsimp only;omega
abbrev Flat5:=(List GRule)×(List GGraph)×(List GEv)×(List Int)×(List GFire)
def exL (e0:GEng) (r:Int×GEng):Except (GEng×Int×List GFire) Flat5:=if r.1=0 then .ok (r.2.Rules,r.2.Graphs,r.2.Events,r.2.Keys,r.2.Fired) else .error (e0,r.1,[])
theorem Fg (k:Nat) (hk:2000000000000≤k) {e0:GEng} (h0:fR e0):∀(f N:Nat) (m:Int) (e:GEng) (q:Graiser) (s:Int),m<(f:Int)→m≤100→f≤N→fR e→QI m q→1≤s∧s≤20→
  da.l0 k e0 N e.Rules e.Graphs e.Events e.Keys e.Fired q.queue q.raised s=some (exL e0 (cq f e q s))∧
  ((cq f e q s).1=0→fR (cq f e q s).2∧(cq f e q s).2.Rules=e.Rules∧(∃more,(cq f e q s).2.Fired=e.Fired++more)∧∃evs,(cq f e q s).2.Events=e.Events++evs)
 |0,N,m,e,q,s,hf,_,_,_,hq,_=>by have:=hq.sum;have:=hq.raised;omega
 |f+1,N,m,e,q,s,hf,hm,hN,he,hq,hs=>by
  obtain⟨N,rfl⟩:=qsc N
  have hev:=dV he.evs
  have hla:=ly he.evs
  have hqs:=hq.sum
  have hqr:=hq.raised
  rw[da.l0]
  obtain⟨qq,rz⟩:=q
  cases hqq:qq with
  |nil=>
   dsimp only
   rw[if_neg (by simp),show cq (f+1) e ⟨[],rz⟩ s=(0,e) from by rw[cq]]
   exact⟨rfl,fun _=>⟨he,rfl,⟨[],by simp⟩,[],by simp⟩⟩
  |cons x r=>
   subst hqq
   dsimp only at hqs hqr⊢
   have hx:=hq.evs x (by simp)
   rw[if_pos (by simp),ac (by decide),ac (by simp)]
   simp only[qzs,qzb]
   rw[ac (by decide),ac (by simp only[qzm];omega),ac (ml _),tN e.Events qom]
   simp only[qzb]
   rw[wr _ qom]
   have e1:((x::r).drop 1).take ((((x::r).length:Nat):Int)-1).toNat=r:=by
    simp only[List.drop_succ_cons,qzB]
    rw[qzD]
    simp only[qzm];omega
   rw[e1,show(⟨e.Rules,e.Graphs,e.Events,e.Keys,e.Fired⟩:GEng)=e from rfl]
   simp only[qzm] at hqs
   have hq':QI (m-1) ⟨r,rz⟩:=⟨fun z hz=>hq.evs z (by simp[hz]),hqr,by dsimp only;omega⟩
   obtain⟨p1,p2⟩:=pn k qom he (x:=⟨x.Sym,aL e.Events+s,x.Val⟩) ⟨by dsimp only;omega,by dsimp only;omega⟩ hx (m-1) qom hq'
   rw[p1]
   simp only[qzb]
   have hL:cq (f+1) e ⟨x::r,rz⟩ s=if(bg e ⟨x.Sym,aL e.Events+s,x.Val⟩ ⟨r,rz⟩).1=0 then cq f (bg e ⟨x.Sym,aL e.Events+s,x.Val⟩ ⟨r,rz⟩).2.1 (bg e ⟨x.Sym,aL e.Events+s,x.Val⟩ ⟨r,rz⟩).2.2 1
     else((bg e ⟨x.Sym,aL e.Events+s,x.Val⟩ ⟨r,rz⟩).1,(bg e ⟨x.Sym,aL e.Events+s,x.Val⟩ ⟨r,rz⟩).2.1):=by rw[cq]
   rw[hL]
   clear hL p1
   generalize bg e ⟨x.Sym,aL e.Events+s,x.Val⟩ ⟨r,rz⟩=z at p2⊢
   by_cases hz:z.1=0
   ·rw[if_pos hz,if_pos hz]
    obtain⟨g1,g2,g3,g4,more,g5⟩:=p2 hz
    obtain⟨i1,i2⟩:=Fg k hk h0 f N (m-1) z.2.1 z.2.2 1 qom qom qom g1 g2 qom
    refine⟨i1,fun w=>?_⟩
    obtain⟨a,b,⟨more',c⟩,evs,d⟩:=i2 w
    exact⟨a,b.trans g3,⟨more++more',by rw[c,g5,qzl]⟩,_,by rw[d,g4,qzl]⟩
   ·rw[if_neg hz,if_neg hz,o9 k hk h0]
    unfold exL
    rw[if_neg hz]
    exact⟨rfl,fun w=>absurd w hz⟩
theorem xb (k:Nat) (hk:2000000000000≤k) {e:GEng} (h:fR e) {sym gap val:Int} (hc:gD ⟨sym,gap,val⟩=true) :
  da.f k e sym gap val=some (cZ e sym gap val)∧fR (cZ e sym gap val).1∧(cZ e sym gap val).1.Rules=e.Rules∧(∃more,(cZ e sym gap val).1.Fired=e.Fired++more)∧∃evs,(cZ e sym gap val).1.Events=e.Events++evs:=by
 unfold gD at hc
 simp only[qzf,decide_eq_true_eq] at hc
 have hq:QI 7 ⟨[⟨sym,0,val⟩],0⟩:=⟨fun z hz=>by rw[List.mem_singleton.1 hz];dsimp only;omega,by dsimp only;omega,by simp⟩
 obtain⟨l1,l2⟩:=Fg k hk h 8 k 7 e ⟨[⟨sym,0,val⟩],0⟩ gap qom qom qom h hq qom
 unfold da.f cZ
 rw[o9 k hk h]
 simp only[qzb]
 dsimp only at l1
 rw[l1]
 generalize cq 8 e ⟨[⟨sym,0,val⟩],0⟩ gap=z at l2⊢
 unfold exL
 by_cases hz:z.1=0
 ·rw[if_pos hz,if_pos hz]
  obtain⟨a,b,⟨more,c⟩,d⟩:=l2 hz
  simp only[qzb]
  rw[show(⟨z.2.Rules,z.2.Graphs,z.2.Events,z.2.Keys,z.2.Fired⟩:GEng)=z.2 from rfl,o9 k hk a]
  simp only[qzb]
  have hl:e.Fired.length≤z.2.Fired.length:=by rw[c,qzg];omega
  rw[ac qom,ac qom,ac (ml _)]
  have e1:(z.2.Fired.drop e.Fired.length).take (((z.2.Fired.length:Nat):Int)-(e.Fired.length:Int)).toNat=z.2.Fired.drop e.Fired.length:=qzD (by rw[qzU];omega)
  have hev:=dV a.evs
  have hfl:=a.fired.1
  rw[e1,sb k hk _ (by rw[qzU];omega) (fun f hf=>by
   have:=co ((eW f.Occ).1 (a.fired.2 f (vj hf)).2.1).2.2.2.2
   show f.Occ.Ids.length≤1000;omega)]
  exact⟨rfl,a,b,⟨more,c⟩,d⟩
 ·rw[if_neg hz,if_neg hz]
  exact⟨rfl,h,rfl,⟨[],by simp⟩,[],by simp⟩
theorem Ey (k:Nat) (hk:2000000000000≤k) {e:GEng} (h:fR e) {sym gap val:Int} (hc:gD ⟨sym,gap,val⟩=true) :
  fM.f k e sym gap val=some (cZ e sym gap val)∧fR (cZ e sym gap val).1∧(cZ e sym gap val).1.Rules=e.Rules∧(∃more,(cZ e sym gap val).1.Fired=e.Fired++more)∧∃evs,(cZ e sym gap val).1.Events=e.Events++evs:=by
 obtain⟨c1,c2⟩:=xb k hk h hc
 refine⟨?_,c2⟩
 unfold fM.f
 rw[AV k hk h]
 simp only[qzb,if_true]
 rw[pX,hc]
 simp only[qzb,if_true]
 rw[c1];rfl
theorem tU {r r':Gl14Rd} {l:List Int} {v:Int} (h:aE.f r l=some (v,r')):v∈l:=by
 unfold aE.f at h
 obtain⟨x,_,h⟩:=ag h
 obtain⟨_,h⟩:=ae h
 obtain⟨y,hy,h⟩:=ag h
 cases h
 exact qzI hy
theorem wl {k:Nat} {rec':Gl14Rd→Int→Option (GEx×Gl14Rd)} {p1:Int} {Q:GEx→Prop} (hQ:∀r x r',rec' r (IntKind.wrap .i64 (p1-1))=some (x,r')→Q x):∀(c n:Nat) (b:List Int) (p:Int) (acc:List GEx) (res:(List GEx)×(List Int)×Int),c<1000→
  aH.l0 k rec' p1 n b p acc (c:Int)=some res→(∀x∈acc,Q x)→(∀x∈res.1,Q x)∧res.1.length=acc.length+c
 |c,0,b,p,acc,res,_,h,_=>by rw[aH.l0] at h;cases h
 |0,n+1,b,p,acc,res,_,h,ha=>by
  rw[aH.l0,if_neg qom] at h
  cases h
  exact⟨ha,rfl⟩
 |c+1,n+1,b,p,acc,res,hc,h,ha=>by
  rw[aH.l0,if_pos qom] at h
  obtain⟨⟨x,r'⟩,hx,h⟩:=ag h
  obtain⟨_,h⟩:=ae h
  rw[wr _ qom,show((c+1:Nat):Int)-1=(c:Int) by omega] at h
  obtain⟨a,b⟩:=wl hQ c n _ _ _ res qom h (fun y hy=>by
   rcases List.mem_append.1 hy with q|q
   ·exact ha y q
   ·rw[List.mem_singleton.1 q];exact hQ _ _ _ hx)
  refine⟨a,?_⟩
  rw[b,qzg,qzq];omega
theorem wy {k:Nat} {rec':Gl14Rd→Int→Option (GEx×Gl14Rd)} {p1:Int} {Q:GEx→Prop} (hQ:∀r x r',rec' r (IntKind.wrap .i64 (p1-1))=some (x,r')→Q x):∀(c n:Nat) (b:List Int) (p:Int) (acc:List GEx) (res:(List GEx)×(List Int)×Int),c<1000→
  aH.l1 k rec' p1 n b p acc (c:Int)=some res→(∀x∈acc,Q x)→(∀x∈res.1,Q x)∧res.1.length=acc.length+c
 |c,0,b,p,acc,res,_,h,_=>by rw[aH.l1] at h;cases h
 |0,n+1,b,p,acc,res,_,h,ha=>by
  rw[aH.l1,if_neg qom] at h
  cases h
  exact⟨ha,rfl⟩
 |c+1,n+1,b,p,acc,res,hc,h,ha=>by
  rw[aH.l1,if_pos qom] at h
  obtain⟨⟨x,r'⟩,hx,h⟩:=ag h
  obtain⟨_,h⟩:=ae h
  rw[wr _ qom,show((c+1:Nat):Int)-1=(c:Int) by omega] at h
  obtain⟨a,b⟩:=wy hQ c n _ _ _ res qom h (fun y hy=>by
   rcases List.mem_append.1 hy with q|q
   ·exact ha y q
   ·rw[List.mem_singleton.1 q];exact hQ _ _ _ hx)
  refine⟨a,?_⟩
  rw[b,qzg,qzq];omega
def sD (d:Nat) (x:GEx):Prop:=cG x=true∧exD x≤d
theorem CX {v:Int} (h:v∈[0,0,1,1,2,2,3,(4:Int)]):sD 1 ⟨1,v,0,[]⟩:=by
 simp only[qzo,sP,or_false] at h
 refine⟨?_,by simp[exD,kx]⟩
 rcases h with rfl|rfl|rfl|rfl|rfl|rfl|rfl|rfl <;> rfl
theorem C3 {d:Nat} {kd nn:Int} {ks:List GEx} (hk:kd∈[2,3,3,4,4,4,5,6,(7:Int)]) (hn:kd=7∧1≤nn∧nn≤20∨kd≠7∧nn=0) (hl:(ks.length:Int)=fg kd) (h:∀x∈ks,sD d x):sD (d+1) ⟨kd,0,nn,ks⟩:=by
 refine⟨?_,?_⟩
 ·rw[iS,ju]
  simp only[qzf,qzN]
  refine⟨?_,fun x hx=>(h x hx).1⟩
  unfold eI
  simp only[qzf,decide_eq_true_eq,sW]
  refine⟨⟨⟨⟨hl.symm,by omega⟩,by omega⟩,.inr (by first|trivial|rfl)⟩,?_⟩
  rcases hn with⟨rfl,a,b⟩|⟨a,b⟩
  ·rw[if_pos rfl];simp[a,b]
  ·rw[if_neg a];simp[b]
 ·rw[kJ]
  have:=(lu ks d).2 fun x hx=>(h x hx).2
  show 1+kx ks≤d+1
  omega
theorem F0 {kd:Int} (hk:kd∈[2,3,3,4,4,4,5,6,(7:Int)]):∃c:Nat,fg kd=(c:Int)∧c≤3:=by
 simp only[qzo,sP,or_false] at hk
 rcases hk with rfl|rfl|rfl|rfl|rfl|rfl|rfl|rfl|rfl
 ·exact⟨2,rfl,by omega⟩
 ·exact⟨2,rfl,by omega⟩
 ·exact⟨2,rfl,by omega⟩
 ·exact⟨2,rfl,by omega⟩
 ·exact⟨2,rfl,by omega⟩
 ·exact⟨2,rfl,by omega⟩
 ·exact⟨3,rfl,by omega⟩
 ·exact⟨3,rfl,by omega⟩
 ·exact⟨1,rfl,by omega⟩
theorem xR:∀(d:Nat),1≤d→d≤4→∀(k:Nat) (r:Gl14Rd) (x:GEx) (r':Gl14Rd),aH.f k r (d:Int)=some (x,r')→sD d x
 |0,h,_,_,_,_,_,_=>by omega
 |d+1,_,hd,0,r,x,r',h=>by rw[aH.f] at h;cases h
 |d+1,_,hd,k+1,r,x,r',h=>by
  have up:∀{y:GEx},sD 1 y→sD (d+1) y:=fun q=>⟨q.1,by have:=q.2;omega⟩
  rw[aH.f] at h
  by_cases h1:1<((d+1:Nat):Int)
  rotate_left
  ·rw[if_neg h1] at h
   obtain⟨⟨v,r1⟩,hv,h⟩:=ag h
   cases h
   exact up (CX (tU hv))
  rw[if_pos h1] at h
  have hrec:∀r x r',aH.f k r (IntKind.wrap .i64 (((d+1:Nat):Int)-1))=some (x,r')→sD d x:=fun r x r' q=>by
   rw[wr _ qom,show((d+1:Nat):Int)-1=(d:Int) by omega] at q
   exact xR d qom qom k r x r' q
  obtain⟨⟨v,r1⟩,hv,h⟩:=ag h
  by_cases h2:v=0
  ·rw[if_pos h2] at h
   obtain⟨⟨w,r2⟩,hw,h⟩:=ag h
   cases h
   exact up (CX (tU hw))
  rw[if_neg h2] at h
  obtain⟨⟨kd,r2⟩,hkd,h⟩:=ag h
  have hk:=tU hkd
  obtain⟨c,hc,hc3⟩:=F0 hk
  dsimp only at h
  by_cases h7:kd=7
  ·rw[if_pos h7] at h
   obtain⟨⟨nn,r3⟩,hn,h⟩:=ag h
   have hn:=tU hn
   obtain⟨c',hc',h⟩:=ag h
   rw[lF,hc] at hc'
   cases hc'
   obtain⟨⟨ks,b,p⟩,hl,h⟩:=ag h
   cases h
   obtain⟨a1,a2⟩:=wl hrec c _ _ _ _ _ qom hl (fun y hy=>by simp at hy)
   exact C3 hk (.inl ⟨h7,by simp only[qzo,sP,or_false] at hn;omega⟩) (by rw[hc,a2];simp) a1
  ·rw[if_neg h7] at h
   obtain⟨c',hc',h⟩:=ag h
   rw[lF,hc] at hc'
   cases hc'
   obtain⟨⟨ks,b,p⟩,hl,h⟩:=ag h
   cases h
   obtain⟨a1,a2⟩:=wy hrec c _ _ _ _ _ qom hl (fun y hy=>by simp at hy)
   exact C3 hk (.inr ⟨h7,rfl⟩) (by rw[hc,a2];simp) a1
theorem Fm {x:GEx} (h:sD 2 x):lj x=true:=by
 have h1:=h.1
 rw[iS,ju] at h1
 simp only[qzf,qzN] at h1
 have h2:=h.2
 rw[kJ] at h2
 have hk:∀y∈x.Kids,y.Kids=[]:=fun y hy=>by
  have:=(lu x.Kids 1).1 qom y hy
  rw[kJ] at this
  cases hq:y.Kids with
  |nil=>rfl
  |cons z zs=>
   have hz:1≤exD z:=by rw[kJ];omega
   rw[hq] at this
   have:=(lu (z::zs) 0).1 qom z (by simp)
   omega
 have hn:∀l:List GEx,(∀y∈l,y.Kids=[])→em l=l.length:=fun l=>by
  induction l with
  |nil=>intro _;rfl
  |cons y l ih=>
   intro q
   have e1:exN y=1:=by rw[dI,q y (by simp)];rfl
   simp only[em,e1,qzm]
   rw[ih fun z hz=>q z (by simp[hz])];omega
 have h3:=h1.1
 unfold eI at h3
 simp only[qzf,decide_eq_true_eq,sW] at h3
 have hl:x.Kids.length≤3:=by
  have:fg x.Kind≤3:=by
   unfold fg;repeat' split
   all_goals omega
  omega
 unfold lj
 simp only[qzf,decide_eq_true_eq]
 refine⟨⟨?_,?_⟩,h.1⟩
 ·rw[dI,hn _ hk];omega
 ·have:=h.2;omega
theorem Ez (k:Nat) (hk:2000000000000≤k) (r:Gl14Rd) (m:Int) (hr:dz r m) (hm:m≤90000000) {x:GEx} {r':Gl14Rd} (h:ia.f k r=some (x,r')):lj x=true:=by
 unfold ia.f at h
 obtain⟨v,r1,e1,e2,e3,e4,e5⟩:=fu r 4 m hr qom qom
 have hv:=e3 qom
 rw[e1] at h
 simp only[qzb] at h
 rw[wr (1+v) qom] at h
 obtain⟨d,hd⟩:∃d:Nat,1+v=(d:Int):=⟨(1+v).toNat,by omega⟩
 have t4:(4:Nat) ^ d≤4 ^ 4:=uK qom qom
 have t10:(10:Nat) ^ (d+1)≤10 ^ 5:=uK qom qom
 have t10i:((10 ^ (d+1):Nat):Int)=(10:Int) ^ (d+1):=by push_cast;rfl
 obtain⟨y,r2,g1,g2,g3⟩:=xd d qom k qom r1 (m+1) e5 qom
 rw[hd,g1] at h
 simp only[qzb] at h
 rw[mB y qom k qom] at h
 simp only[qzb] at h
 split at h
 ·rename_i ho
  cases h
  exact ho
 ·obtain⟨⟨z,r3⟩,f1,h⟩:=ag h
  cases h
  exact Fm (xR 2 qom qom k r2 z r3 f1)
theorem zH (k:Nat) (s:ByteArray) (hs:s.size≤1000000) (hk:1000001≤k):dR.f k s=some (jZ s):=by
 have:=jx s.size (oK s) false (dR.l0 k s) (fun N=>by rw[dR.l0,if_neg qom])
  (fun N i hi=>by
   rw[dR.l0,if_pos qom,ac qom,ac qom,ac qom,ac qom,qzd,wrS i qom]
   unfold oK
   by_cases h1:(mD s i)<97
   ·rw[if_pos h1];simp[h1]
   ·rw[if_neg h1]
    by_cases h2:122<(mD s i)
    ·rw[if_pos h2];simp[h2]
    ·rw[if_neg h2];simp[h1,h2]) k qom
 unfold dR.f jZ
 rw[this]
 by_cases h:∀i,i<s.size→oK s i=true
 ·rw[if_pos h]
  simp only[qzb]
  by_cases h1:0<(s.size:Int)
  ·rw[if_pos h1,qzh,qzP]
   simp only[qzf,decide_eq_true_eq,tg,decide_eq_false_iff_not]
   constructor
   ·intro q;exact⟨h,by omega,by omega⟩
   ·intro q;omega
  ·rw[if_neg h1,qzh,qzP]
   simp only[qzf,decide_eq_true_eq,qzw,false_iff]
   intro q;omega
 ·rw[if_neg h,decide_eq_false h];rfl
theorem z7 (k:Nat) (hk:1000000000000≤k) (r:GRule) (h:mT r):kK.f k r=some (rOk r):=by
 unfold kK.f rOk
 rw[zH k r.Name h.1 qom,(sa r.Mode).2,mB r.Ex (by have:=h.2;omega) k (by have:=h.2;omega)]
 simp only[qzb]
 cases jZ r.Name
 ·rfl
 simp only[if_true,qzk]
 by_cases h1:r.Pri<0
 ·rw[if_pos h1,decide_eq_false (fun q=>by omega)];rfl
 rw[if_neg h1]
 by_cases h1':9<r.Pri
 ·rw[if_pos h1',decide_eq_false (fun q=>by omega)];rfl
 rw[if_neg h1',decide_eq_true (show 0≤r.Pri∧r.Pri≤9 by omega),qzk]
 by_cases h2:0≤r.Mode∧r.Mode≤4
 rotate_left
 ·rw[if_neg (by simpa using h2),decide_eq_false h2];rfl
 rw[if_pos (by simpa using h2),decide_eq_true h2,qzk]
 cases lj r.Ex
 ·rfl
 simp only[if_true,qzk]
 by_cases h3:r.Low<0
 ·rw[if_pos h3,decide_eq_false (fun q=>by omega)];rfl
 rw[if_neg h3]
 by_cases h4:r.High<r.Low
 ·rw[if_pos h4,decide_eq_false (fun q=>by omega)];rfl
 rw[if_neg h4]
 by_cases h4':100<r.High
 ·rw[if_pos h4',decide_eq_false (fun q=>by omega)];rfl
 rw[if_neg h4',decide_eq_true (show 0≤r.Low∧r.Low≤r.High∧r.High≤100 by omega),qzk]
 by_cases h5:r.Key<0
 ·rw[if_pos h5,decide_eq_false (fun q=>by omega)];rfl
 rw[if_neg h5]
 by_cases h5':r.Key<4
 rotate_left
 ·rw[if_neg h5',decide_eq_false (fun q=>by omega)];rfl
 rw[if_pos h5',decide_eq_true (show 0≤r.Key∧r.Key≤3 by omega),qzk]
 by_cases h6:r.Add< -9
 ·rw[if_pos h6,decide_eq_false (fun q=>by omega)];rfl
 rw[if_neg h6]
 by_cases h6':9<r.Add
 ·rw[if_pos h6',decide_eq_false (fun q=>by omega)];rfl
 rw[if_neg h6',decide_eq_true (show -9≤r.Add∧r.Add≤9 by omega),qzk]
 by_cases h7:r.Raise< -1
 ·rw[if_pos h7,decide_eq_false (fun q=>by omega)]
 rw[if_neg h7,qzh,qzP]
 simp only[decide_eq_true_eq];omega
def D7 (l:List GRule) (nm:ByteArray) (j:Nat):Bool:=match l[j]? with
 |some s=> !fA s.Name nm
 |none=>false
theorem lZ (k:Nat) (hk:1000000000000≤k) (l:List GRule) (hl:l.length≤1000000) (h:∀r∈l,mT r):bp.f k l=some (dQ l):=by
 have dm:∀nm j (hj:j<l.length),D7 l nm j= !fA l[j].Name nm:=fun nm j hj=>by unfold D7;rw[qzc hj]
 have inner:∀i (hi:i<l.length),bp.l3 k l (i:Int) k 0=some (if((l.take i).all fun s=> !fA s.Name l[i].Name)=true then .ok () else .error false):=fun i hi=>by
  have:=jx i (D7 l l[i].Name) false (bp.l3 k l (i:Int)) (fun N=>by rw[bp.l3,if_neg qom])
   (fun N j hj=>by
    have hlt:j<l.length:=by omega
    rw[bp.l3,if_pos qom,ac qom,qzd,qzc hlt]
    simp only[qzb]
    rw[ac qom,qzd,qzc hi]
    simp only[qzb]
    rw[dm _ j hlt]
    by_cases hb:fA l[j].Name l[i].Name=true
    ·rw[if_pos hb,hb];rfl
    ·rw[if_neg hb]
     have:fA l[j].Name l[i].Name=false:=by simpa using hb
     rw[this,wrS j qom];rfl) k qom
  rw[this]
  congr 1
  by_cases q:((l.take i).all fun s=> !fA s.Name l[i].Name)=true
  ·rw[if_pos q,if_pos]
   intro j hj
   rw[qzN] at q
   rw[dm _ j qom]
   exact q _ (List.mem_take_iff_getElem.2 ⟨j,by omega,rfl⟩)
  ·rw[if_neg q,if_neg]
   intro w
   apply q
   rw[qzN]
   intro s hs
   obtain⟨j,hj,rfl⟩:=List.mem_take_iff_getElem.1 hs
   have:=w j qom
   rwa [dm _ j qom] at this
 have:=jx l.length (iH l) false (bp.l2 k l) (fun N=>by rw[bp.l2,if_neg qom])
  (fun N i hi=>by
   rw[bp.l2,if_pos qom,ac qom,qzd,qzc hi]
   simp only[qzb]
   rw[z7 k hk _ (h _ (qze hi))]
   simp only[qzb]
   have hn:iH l i=(rOk l[i]&&(l.take i).all fun s=> !fA s.Name l[i].Name):=by unfold iH;rw[qzc hi]
   rw[hn]
   by_cases hb:rOk l[i]=true
   ·rw[if_pos hb,hb,qzk,inner i hi]
    simp only[qzb]
    cases(l.take i).all fun s=> !fA s.Name l[i].Name
    ·rfl
    ·simp only[if_true]
     rw[wrS i qom]
   ·rw[if_neg hb]
    have:rOk l[i]=false:=by simpa using hb
    rw[this];rfl) k qom
 unfold bp.f dQ
 by_cases h4:4<(l.length:Int)
 ·rw[if_pos h4,decide_eq_false (show ¬l.length≤4 by omega),Bool.and_false]
 rw[if_neg h4,this,decide_eq_true (show l.length≤4 by omega),Bool.and_true]
 by_cases h:∀i,i<l.length→iH l i=true
 ·rw[if_pos h,decide_eq_true h];rfl
 ·rw[if_neg h,decide_eq_false h];rfl
theorem Aj (x:GEx):(⟨x.Kind,x.Sym,x.N,x.Kids⟩:GEx)=x:=by cases x;rfl
/-- a rule that is drawn: small, its name not of two letters -/
def D8 (r:GRule):Prop:=mT r∧r.Name.size≠2
theorem Gl (k:Nat) (hk:2000000000000≤k) (r:Gl14Rd) (m:Int) (hr:dz r m) (hm:m≤50000000) (name:ByteArray):∃x r',kI.f k r name=some (x,r')∧dz r' (m+300000)∧x.Name=name∧exN x.Ex≤1000∧(jZ name=true→rOk x=true):=by
 obtain⟨x,r1,e1,h1,h2⟩:=GJ k hk r m hr qom
 have hxo:=Ez k hk r m hr qom e1
 obtain⟨v,r2,e2, -, -, -,h3⟩:=fu r1 2 (m+200000) h1 qom qom
 have tail:∀(r:Gl14Rd) (m':Int),dz r m'→m'≤m+290000→∃(low pri mode high key add raise:Int) (a b c d e f g:Gl14Rd),aE.f r [0,0,0,1,5]=some (low,a)∧aE.f a [0,1,5,5,9]=some (pri,b)∧aT.f b 5=some (mode,c)∧aE.f c [100,100,5]=some (high,d)∧aT.f d 4=some (key,e)∧aE.f e [1,1,2,9,0,(-1)]=some (add,f)∧aE.f f [(-1),(-1),(-1),(-1),3,4,2]=some (raise,g)∧dz g (m+300000)∧
   (0≤low∧low≤high∧high≤100)∧(0≤pri∧pri≤9)∧(0≤mode∧mode≤4)∧(0≤key∧key≤3)∧(-9≤add∧add≤9)∧(-1≤raise∧raise≤4):=fun r m' hr hm'=>by
  obtain⟨low,a,a1,v1,a2⟩:=fO r [0,0,0,1,5] m' hr qom (by simp)
  obtain⟨pri,b,b1,v2,b2⟩:=fO a [0,1,5,5,9] (m'+1) a2 qom (by simp)
  obtain⟨mode,c,c1,v3,w3, -,c2⟩:=fu b 5 (m'+1+1) b2 qom qom
  obtain⟨high,d,d1,v4,d2⟩:=fO c [100,100,5] (m'+1+1+1) c2 qom (by simp)
  obtain⟨key,e,g1,v5,w5, -,g2⟩:=fu d 4 (m'+1+1+1+1) d2 qom qom
  obtain⟨add,f,f1,v6,f2⟩:=fO e [1,1,2,9,0,(-1)] (m'+1+1+1+1+1) g2 qom (by simp)
  obtain⟨raise,g,i1,v7,i2⟩:=fO f [(-1),(-1),(-1),(-1),3,4,2] (m'+1+1+1+1+1+1) f2 qom (by simp)
  have w3:=w3 qom
  have w5:=w5 qom
  simp only[qzo,sP,or_false] at v1 v2 v4 v6 v7
  exact⟨low,pri,mode,high,key,add,raise,a,b,c,d,e,f,g,a1,b1,c1,d1,g1,f1,i1,i2.mono qom,by omega,by omega,by omega,by omega,by omega,by omega⟩
 unfold kI.f
 rw[e1]
 simp only[qzb]
 rw[e2]
 simp only[qzb]
 by_cases hv:v=0
 ·rw[if_pos hv]
  obtain⟨y,r3,e3,q1,q2⟩:=xd 2 qom k qom r2 (m+200000+1) h3 qom
  have hyo:=Fm (xR 2 qom qom k r2 y r3 e3)
  rw[show((2:Nat):Int)=2 from rfl] at e3
  rw[e3]
  obtain⟨low,pri,mode,high,key,add,raise,a,b,c,d,e,f,g,a1,b1,c1,d1,g1,f1,i1,i2,w1,w2,w3,w4,w5,w6⟩:=tail r3 _ q1 qom
  simp only[qzb,a1,b1,c1,d1,g1,f1,i1]
  exact⟨_,_,rfl,i2,rfl,by show exN (⟨y.Kind,y.Sym,y.N,y.Kids⟩:GEx)≤1000;rw[Aj];omega,fun hn=>(xw _).2 ⟨hn,w2,w3,by rw[Aj];exact hyo,w1,w4,w5,w6⟩⟩
 ·rw[if_neg hv]
  obtain⟨low,pri,mode,high,key,add,raise,a,b,c,d,e,f,g,a1,b1,c1,d1,g1,f1,i1,i2,w1,w2,w3,w4,w5,w6⟩:=tail r2 _ h3 qom
  simp only[qzb,a1,b1,c1,d1,g1,f1,i1]
  exact⟨_,_,rfl,i2,rfl,by show exN (⟨x.Kind,x.Sym,x.N,x.Kids⟩:GEx)≤1000;rw[Aj];omega,fun hn=>(xw _).2 ⟨hn,w2,w3,by rw[Aj];exact hxo,w1,w4,w5,w6⟩⟩
def nms:List ByteArray:=[(⟨#[111,110,101]⟩:ByteArray),(⟨#[116,119,111]⟩:ByteArray),(⟨#[116,104,114,101,101]⟩:ByteArray),(⟨#[102,111,117,114]⟩:ByteArray)]
def Aq (l:List GRule):Prop:=∀(j:Nat) (r:GRule),l[j]? =some r→rOk r=true∧nms[j]? =some r.Name
theorem Aq.ok {l:List GRule} (h:Aq l) (hl:l.length≤4):dQ l=true:=by
 unfold dQ
 rw[qzf]
 refine⟨decide_eq_true fun i hi=>?_,decide_eq_true hl⟩
 unfold iH
 rw[qzc hi]
 obtain⟨a,b⟩:=h i _ (qzc hi)
 simp only[a,qzk,qzN]
 intro s hs
 obtain⟨j,hj,e⟩:=List.mem_take_iff_getElem.1 hs
 obtain⟨_,c⟩:=h j s (by rw[qzc qom,e])
 have hi4:i=0∨i=1∨i=2∨i=3:=by omega
 have hj4:j=0∨j=1∨j=2:=by omega
 generalize (l[i]).Name=x at b⊢
 generalize s.Name=y at c⊢
 rcases hi4 with rfl|rfl|rfl|rfl <;> rcases hj4 with rfl|rfl|rfl <;> first|omega|(simp only[nms,qzs,yz,qzh] at b c;subst b;subst c;unfold fA;rw[ByteArray.toList_eq,ByteArray.toList_eq];rfl)
theorem BN (k:Nat) (hk:2000000000000≤k):∀(c n:Nat) (b:List Int) (p m:Int) (acc:List GRule),c<n→dz ⟨b,p⟩ m→m+300000 * c≤50000000→acc.length+c≤4→(∀r∈acc,D8 r)→Aq acc→
  ∃l b' p',dg.l0 k n b p acc (c:Int)=some (l,b',p')∧dz ⟨b',p'⟩ (m+300000 * c)∧l.length≤4∧(∀r∈l,D8 r)∧Aq l:=by
 intro c
 induction c with
 |zero=>
  intro n b p m acc hn hr hm ha hd hN
  obtain⟨n,rfl⟩:=qsc n
  rw[dg.l0,if_neg qom]
  exact⟨_,_,_,rfl,by simpa using hr,by omega,hd,hN⟩
 |succ c ih=>
  intro n b p m acc hn hr hm ha hd hN
  obtain⟨n,rfl⟩:=qsc n
  have hname:∃nm:ByteArray,nms[acc.length]? =some nm∧nm.size≤5∧nm.size≠2∧jZ nm=true:=by
   have h4:acc.length=0∨acc.length=1∨acc.length=2∨acc.length=3:=by omega
   rcases h4 with h|h|h|h <;> rw[h]
   ·exact⟨_,rfl,by decide,by decide,by decide⟩
   ·exact⟨_,rfl,by decide,by decide,by decide⟩
   ·exact⟨_,rfl,by decide,by decide,by decide⟩
   ·exact⟨_,rfl,by decide,by decide,by decide⟩
  obtain⟨nm,n1,n2,n3,n4⟩:=hname
  obtain⟨x,r',e1,e2,e3,e4,e5⟩:=Gl k hk ⟨b,p⟩ m hr qom nm
  have n1':=n1
  unfold nms at n1'
  rw[dg.l0,if_pos qom,ac qom,ac qom,qzd,n1']
  simp only[qzb]
  rw[e1]
  simp only[qzb]
  rw[ac qom,wrP c qom]
  obtain⟨l,b',p',q1,q2,q3,q4,q5⟩:=ih n r'.b r'.p (m+300000) (acc++[x]) qom e2 qom (by rw[qzg,qzq];omega) (fun r hr'=>by
   rcases List.mem_append.1 hr' with h|h
   ·exact hd r h
   ·rw[List.mem_singleton.1 h]
    exact⟨⟨by rw[e3];omega,by omega⟩,by rw[e3];exact n3⟩) (fun j r hj=>by
   by_cases h:j<acc.length
   ·rw[qzF h] at hj;exact hN j r hj
   ·rw[qzu qom] at hj
    have:j-acc.length=0:=by
     have:=(List.getElem?_eq_some_iff.1 hj).1
     simp only[qzq] at this;omega
    rw[this] at hj
    cases hj
    rw[show j=acc.length by omega,e3]
    exact⟨e5 n4,n1⟩)
  exact⟨l,b',p',q1,q2.mono qom,q3,q4,q5⟩
theorem ER (k:Nat) (hk:2000000000000≤k) (r:Gl14Rd) (m:Int) (hr:dz r m) (hm:m≤40000000):∃l r',dg.f k r=some (l,r')∧dz r' (m+2000000)∧l.length≤4∧(∀r∈l,D8 r)∧dQ l=true:=by
 obtain⟨v,r1,e1,h1,h2, -,h4⟩:=fu r 5 m hr qom qom
 have h2:=h2 qom
 obtain⟨c,rfl⟩:∃c:Nat,v=c:=⟨v.toNat,by omega⟩
 obtain⟨l,b',p',q1,q2,q3,q4,q5⟩:=BN k hk c k r1.b r1.p (m+1) [] qom h4 qom (by simp;omega) (fun r h=>by simp at h) (fun j r h=>by simp at h)
 unfold dg.f
 rw[e1]
 simp only[qzb]
 rw[q1]
 exact⟨l,⟨b',p'⟩,rfl,q2.mono qom,q3,q4,q5.ok q3⟩



/- found at the time of the one that came -/

mutual
def o8:GEx→List GEx
 |⟨kd,sy,n,ks⟩=>⟨kd,sy,n,ks⟩::mm ks
def mm:List GEx→List GEx
 |[]=>[]
 |x::xs=>o8 x++mm xs
end
theorem nE {y:GEx}:∀{xs:List GEx},y∈mm xs↔∃x∈xs,y∈o8 x
 |[]=>by simp[mm]
 |x::xs=>by
  simp only[mm,List.mem_append,nE (xs:=xs),qzo]
  constructor
  ·rintro(h|⟨z,hz,h⟩)
   ·exact⟨x,.inl rfl,h⟩
   ·exact⟨z,.inr hz,h⟩
  ·rintro⟨z,rfl|hz,h⟩
   ·exact .inl h
   ·exact .inr ⟨z,hz,h⟩
theorem ru {x y:GEx}:y∈o8 x↔y=x∨∃z∈x.Kids,y∈o8 z:=by
 obtain⟨a,b,c,d⟩:=x
 simp only[o8,qzo,nE]
theorem EN:∀x:GEx,cG x=true→∀y∈o8 x,cG y=true:=by
 refine jE fun x ih hf y hy=>?_
 rcases ru.1 hy with rfl|⟨k,hk,h⟩
 ·exact hf
 ·exact ih k hk ((cT hf).2 k hk) y h
theorem FU:∀x:GEx,∀y∈o8 x,exN y≤exN x:=by
 refine jE fun x ih y hy=>?_
 rcases ru.1 hy with rfl|⟨k,hk,h⟩
 ·exact qzi _
 ·have:=ih k hk y h
  have:=eR hk
  rw[dI x];omega
/-- a part that is there already is the same expression -/
theorem Bv {x:GEx} {E:List GEx} {N:List GNode} {ks:List Int} (h:Rep E N) (hl:ks.length=x.Kids.length) (hk:∀(j:Nat) (y:GEx),x.Kids[j]? =some y→∃q:Nat,ks[j]? =some (q:Int)∧E[q]? =some y) {i:Nat} (hi:i<N.length) (hkey:pj N[i] (kL x.Kind x.Sym x.N ks)=true):E[i]? =some x:=by
 obtain⟨k1,k2,k3,k4⟩:=(rU _ _).1 hkey
 obtain⟨e,he,_,hr⟩:=h.2 i _ (qzc hi)
 rw[he]
 congr 1
 refine Bq (hr.1.symm.trans k1) (hr.2.1.symm.trans k2) (hr.2.2.1.symm.trans k3) (List.ext_getElem? fun j=>?_)
 have hlen:e.Kids.length=x.Kids.length:=by rw[←hr.2.2.2.1,k4];exact hl
 rcases qzM j e.Kids.length with hj|hj
 ·obtain⟨q,_,q2,q3⟩:=hr.2.2.2.2 j hj
  obtain⟨q',p1,p2⟩:=hk j x.Kids[j] (qzc qom)
  rw[k4] at q2
  have hq:some (q':Int)=some (q:Int):=p1.symm.trans q2
  have:q'=q:=Int.ofNat.inj (pQ hq)
  subst this
  rw[←q3,p2,qzc qom]
 ·rw[qzR hj,qzR qom]
theorem GX {x:GEx} (hx:gO x) {E:List GEx} {N:List GNode} {ks:List Int} (h:Rep E N) (hl:ks.length=x.Kids.length) (hk:∀(j:Nat) (y:GEx),x.Kids[j]? =some y→∃q:Nat,ks[j]? =some (q:Int)∧E[q]? =some y):Rep (E++[x]) (N++[kL x.Kind x.Sym x.N ks]):=by
 refine⟨by have:=h.1;simp only[qzg,qzq] at this⊢;omega,fun i n hn=>?_⟩
 rcases qzM i N.length with hlt|hge
 ·rw[qzF hlt] at hn
  obtain⟨e,he,hf,hr⟩:=h.2 i n hn
  refine⟨e,tQ he,hf,hr.1,hr.2.1,hr.2.2.1,hr.2.2.2.1,fun j hj=>?_⟩
  obtain⟨q,q1,q2,q3⟩:=hr.2.2.2.2 j hj
  refine⟨q,q1,q2,?_⟩
  rw[qzF (by rw[h.1];omega)];exact q3
 ·rw[qzu hge] at hn
  have:i=N.length:=by
   have:=(List.getElem?_eq_some_iff.1 hn).1
   simp only[qzq] at this;omega
  subst this
  rw[qzV,qzs] at hn
  cases hn
  refine⟨x,?_,hx,rfl,rfl,rfl,hl,fun j hj=>?_⟩
  ·rw[←h.1,qzu (qzi _),qzV];rfl
  ·obtain⟨q,p1,p2⟩:=hk j x.Kids[j] (qzc hj)
   have hq:q<E.length:=(List.getElem?_eq_some_iff.1 p2).1
   refine⟨q,by rw[←h.1];exact hq,p1,?_⟩
   rw[qzF hq,p2,qzc hj]

def fI (kd sy:Int):List UInt8:=if kd=1 then[UInt8.ofNat (97+sy).toNat] else if kd=2 then[111,114] else if kd=3 then[97,110,100] else if kd=4 then[115,101,113] else if kd=5 then[110,111,116] else if kd=6 then[101,97,99,104] else[112,108,117,115]
def j4 (n:Int):List UInt8:=if n<10 then[UInt8.ofNat (48+n).toNat] else[UInt8.ofNat (48+n / 10).toNat,UInt8.ofNat (48+n % 10).toNat]
mutual
def fG:GEx→List UInt8
 |⟨kd,sy,n,ks⟩=>fI kd sy++((if kd=7 then 32::j4 n else[])++cE ks)
def cE:List GEx→List UInt8
 |[]=>[]
 |x::xs=>32::(fG x++cE xs)
end
theorem jV (x:GEx):fG x=fI x.Kind x.Sym++((if x.Kind=7 then 32::j4 x.N else[])++cE x.Kids):=by
 obtain⟨a,b,c,d⟩:=x
 simp only[fG]
theorem Eh (s:Int) (h:1≤s∧s≤7):∃m:Fin 8,s=(m.val:Int)∧1≤m.val:=⟨⟨s.toNat,by omega⟩,by show s=(s.toNat:Int);omega,by show 1≤s.toNat;omega⟩
theorem Aw (s:Int) (h:0≤s∧s<5):∃m:Fin 5,s=(m.val:Int):=⟨⟨s.toNat,by omega⟩,by show s=(s.toNat:Int);omega⟩
theorem AW {kd sy:Int} (h:1≤kd∧kd≤7) (hs:0≤sy∧sy<5):∀b∈fI kd sy,b≠32:=by
 obtain⟨m,rfl,_⟩:=Eh kd h
 obtain⟨s,rfl⟩:=Aw sy hs
 have key:∀(a:Fin 8) (b:Fin 5),∀c∈fI (a.val:Int) (b.val:Int),c≠32:=by decide +kernel
 exact key m s
theorem Gz {kd sy kd' sy':Int} (h:1≤kd∧kd≤7) (hs:0≤sy∧sy<5) (h':1≤kd'∧kd'≤7) (hs':0≤sy'∧sy'<5) (e:fI kd sy=fI kd' sy'):kd=kd'∧(kd=1→sy=sy'):=by
 obtain⟨m,rfl,g⟩:=Eh kd h
 obtain⟨s,rfl⟩:=Aw sy hs
 obtain⟨m',rfl,g'⟩:=Eh kd' h'
 obtain⟨s',rfl⟩:=Aw sy' hs'
 have key:∀(a b:Fin 8) (s t:Fin 5),((decide (1≤a.val)&&(decide (1≤b.val)&&(fI (a.val:Int) (s.val:Int)==fI (b.val:Int) (t.val:Int))))&& !(decide (a=b)&&(!decide (a.val=1)||decide (s=t))))=false:=by decide +kernel
 have:=key m m' s s'
 rw[decide_eq_true g,decide_eq_true g',e,beq_self_eq_true] at this
 simp only[qzk,ym,qzf,decide_eq_true_eq,sW,tg,decide_eq_false_iff_not] at this
 obtain⟨k1,k2⟩:=this
 refine⟨by rw[k1],fun q=>?_⟩
 rcases k2 with k2|k2
 ·omega
 ·rw[k2]
theorem Ba (n:Int) (h:1≤n∧n≤20):∃m:Fin 21,n=(m.val:Int):=⟨⟨n.toNat,by omega⟩,by show n=(n.toNat:Int);omega⟩
theorem Hy {n n':Int} (h:1≤n∧n≤20) (h':1≤n'∧n'≤20) (e:j4 n=j4 n'):n=n':=by
 obtain⟨m,rfl⟩:=Ba n h
 obtain⟨m',rfl⟩:=Ba n' h'
 have key:∀a b:Fin 21,j4 (a.val:Int)=j4 (b.val:Int)→a=b:=by decide +kernel
 rw[key m m' e]
theorem yY {n:Int} (h:1≤n∧n≤20):∀b∈j4 n,b≠32:=by
 obtain⟨m,rfl⟩:=Ba n h
 have key:∀a:Fin 21,∀b∈j4 (a.val:Int),b≠32:=by decide +kernel
 exact key m
/-- what follows a word: nothing, or a blank -/
def kp (r:List UInt8):Prop:=r=[]∨∃t,r=32::t
theorem wR {w w' r r':List UInt8} (hw:∀b∈w,b≠32) (hw':∀b∈w',b≠32) (hr:kp r) (hr':kp r') (e:w++r=w'++r'):w=w'∧r=r':=by
 have tk:∀{v s:List UInt8},(∀b∈v,b≠32)→kp s→(v++s).takeWhile (·!=32)=v:=fun{v s} hv hs=>by
  induction v with
  |nil=>rcases hs with rfl|⟨t,rfl⟩ <;> rfl
  |cons b v ih=>
   rw[qzH,List.takeWhile_cons_of_pos (by simpa using hv b (by simp)),ih (fun c hc=>hv c (by simp[hc]))]
 have h1:=tk hw hr
 rw[e,tk hw' hr'] at h1
 subst h1
 exact⟨rfl,List.append_cancel_left e⟩
theorem lO {xs:List GEx} {r:List UInt8} (h:kp r):kp (cE xs++r):=by
 cases xs with
 |nil=>simpa [cE] using h
 |cons x xs=>exact .inr ⟨fG x++cE xs++r,by simp only[cE,qzH]⟩
theorem A5:∀{xs ys:List GEx} {r r':List UInt8},xs.length=ys.length→(∀x∈xs,∀y∈ys,∀r r',kp r→kp r'→fG x++r=fG y++r'→x=y∧r=r')→kp r→kp r'→cE xs++r=cE ys++r'→xs=ys∧r=r'
 |[],[],r,r',_,_,_,_,e=>⟨rfl,by simpa [cE] using e⟩
 |[],_::_,_,_,h,_,_,_,_=>by simp at h
 |_::_,[],_,_,h,_,_,_,_=>by simp at h
 |x::xs,y::ys,r,r',hl,H,hr,hr',e=>by
  simp only[cE,qzH,qzl,List.cons.injEq,true_and] at e
  obtain⟨e1,e2⟩:=H x (by simp) y (by simp) _ _ (lO hr) (lO hr') e
  obtain⟨e3,e4⟩:=A5 (by simpa using hl) (fun a ha b hb=>H a (by simp[ha]) b (by simp[hb])) hr hr' e2
  exact⟨by rw[e1,e3],e4⟩
theorem nZ {e:GEx} (h:eI e=true):(1≤e.Kind∧e.Kind≤7)∧(0≤e.Sym∧e.Sym<5)∧(e.Kind≠1→e.Sym=0)∧(e.Kind≠7→e.N=0)∧(e.Kind=7→1≤e.N∧e.N≤20)∧(e.Kids.length:Int)=fg e.Kind:=by
 have rng:1≤e.Kind∧e.Kind≤7:=by
  rcases gZ h with q|q|q|q|q|q|q
  all_goals omega
 unfold eI at h
 simp only[qzf,decide_eq_true_eq,sW] at h
 obtain⟨⟨⟨⟨hk1,hs1⟩,hs2⟩,hs3⟩,hN⟩:=h
 refine⟨rng,by omega,fun q=>by omega,fun q=>?_,fun q=>?_,by omega⟩
 ·rw[if_neg q] at hN;simpa using hN
 ·rw[if_pos q] at hN;simp only[qzf,decide_eq_true_eq] at hN;omega
theorem Gs:∀x:GEx,cG x=true→∀y:GEx,cG y=true→∀r r',kp r→kp r'→fG x++r=fG y++r'→x=y∧r=r':=by
 refine jE fun x ih hx y hy r r' hr hr' e=>?_
 obtain⟨x1,x2,x3,x4,x5,x6⟩:=nZ (cT hx).1
 obtain⟨y1,y2,y3,y4,y5,y6⟩:=nZ (cT hy).1
 rw[jV x,jV y,qzl (fI x.Kind x.Sym),qzl (fI y.Kind y.Sym)] at e
 have st:∀(z:GEx) (s:List UInt8),kp s→kp (((if z.Kind=7 then 32::j4 z.N else[])++cE z.Kids)++s):=fun z s hs=>by
  split
  ·exact .inr ⟨_,rfl⟩
  ·rw[qzO];exact lO hs
 obtain⟨e1,e2⟩:=wR (AW x1 x2) (AW y1 y2) (st x r hr) (st y r' hr') e
 obtain⟨k1,k2⟩:=Gz x1 x2 y1 y2 e1
 have hsym:x.Sym=y.Sym:=by
  by_cases h1:x.Kind=1
  ·exact k2 h1
  ·rw[x3 h1,y3 qom]
 have hlen:x.Kids.length=y.Kids.length:=by
  have:fg x.Kind=fg y.Kind:=by rw[k1]
  omega
 have fin:cE x.Kids++r=cE y.Kids++r'→x.N=y.N→x=y∧r=r':=fun q hn=>by
  obtain⟨f1,f2⟩:=A5 hlen (fun a ha b hb=>ih a ha ((cT hx).2 a ha) b ((cT hy).2 b hb)) hr hr' q
  exact⟨Bq k1 hsym hn f1,f2⟩
 by_cases h7:x.Kind=7
 ·rw[if_pos h7,if_pos qom] at e2
  simp only[qzH,qzl,List.cons.injEq,true_and] at e2
  obtain⟨d1,d2⟩:=wR (yY (x5 h7)) (yY (y5 qom)) (lO hr) (lO hr') e2
  exact fin d2 (Hy (x5 h7) (y5 qom) d1)
 ·rw[if_neg h7,if_neg qom,qzO,qzO] at e2
  exact fin e2 (by rw[x4 h7,y4 qom])
theorem FK {x y:GEx} (hx:cG x=true) (hy:cG y=true):fG x=fG y↔x=y:=by
 constructor
 ·intro e
  exact(Gs x hx y hy [] [] (.inl rfl) (.inl rfl) (by rw[e])).1
 ·rintro rfl;rfl
def bl (s:ByteArray):List UInt8:=s.data.toList
theorem hJ (s:ByteArray):s.size=(bl s).length:=by unfold bl;rw[Array.length_toList];rfl
theorem j7 (a b:ByteArray):bl (a++b)=bl a++bl b:=by unfold bl;rw[ByteArray.data_append,Array.toList_append]
theorem Fa (a b:ByteArray):fA a b=(bl a==bl b):=by unfold fA bl;rw[ByteArray.toList_eq,ByteArray.toList_eq]
theorem wr8 (x:Int) (h:0≤x∧x<256):IntKind.wrap .u8 x=x:=by
 show x % 256=x
 exact Int.emod_eq_of_lt h.1 h.2
theorem xz (d:Int) (h:0≤d∧d≤9):bl (Vm.byte1 (IntKind.wrap .u8 (IntKind.wrap .i64 (48+d))))=[UInt8.ofNat (48+d).toNat]:=by
 rw[wr _ qom,wr8 _ qom]
 rfl
theorem dec_k (k:Nat) (hk:100≤k) (n:Int) (h:1≤n∧n≤20):∃s,cQ.f k n=some s∧bl s=j4 n:=by
 obtain⟨k,rfl⟩:∃m,k=m+3:=⟨k-3,by omega⟩
 rw[cQ.f,if_neg qom,if_neg qom]
 unfold j4
 by_cases h9:9<n
 ·rw[cQ.l0,if_pos h9,tc n 10 qom qom]
  obtain⟨q1,q2,q3⟩:=vQ n 10 qom qom
  have b1:=xz (n % 10) qom
  rw[ac (by rw[hJ,b1];show 1+0≤9223372036854775807;omega),q1,cQ.l0,if_neg qom]
  simp only[qzb]
  have b2:=xz (n / 10) qom
  rw[ac (by rw[hJ,b2,hJ,j7,b1];show 1+1≤9223372036854775807;omega),if_neg qom]
  refine⟨_,rfl,?_⟩
  rw[j7,j7,b1,b2];rfl
 ·rw[cQ.l0,if_neg h9]
  simp only[qzb]
  have b1:=xz n qom
  rw[ac (by rw[hJ,b1];show 1+0≤9223372036854775807;omega),if_pos qom]
  refine⟨_,rfl,?_⟩
  rw[j7,b1];rfl
theorem Gr (s:Int) (h:0≤s∧s<5):∃t,jl.f s=some t∧bl t=fI 1 s:=by
 obtain⟨m,rfl⟩:=Aw s h
 unfold jl.f
 rw[if_neg qom,if_pos qom,wr _ qom,ac qom,ac qom,ac (by show(m.val:Int)+1≤((5:Nat):Int);omega)]
 refine⟨_,rfl,?_⟩
 have key:∀a:Fin 5,bl ((⟨#[97,98,99,100,101]⟩:ByteArray).extract ((a.val:Int)).toNat ((a.val:Int)+1).toNat)=fI 1 (a.val:Int):=by decide +kernel
 exact key m
theorem HA (kd:Int) (h:2≤kd∧kd≤7):∃ws t,lN.f=some ws∧kd<(ws.length:Nat)∧ws[kd.toNat]? =some t∧bl t=fI kd 0:=by
 have h7:kd=2∨kd=3∨kd=4∨kd=5∨kd=6∨kd=7:=by omega
 rcases h7 with rfl|rfl|rfl|rfl|rfl|rfl
 all_goals exact⟨_,_,rfl,by decide,rfl,rfl⟩
theorem BX {kd sy:Int} (h:1≤kd∧kd≤7) (hs:0≤sy∧sy<5):(fI kd sy).length≤4:=by
 obtain⟨m,rfl,_⟩:=Eh kd h
 obtain⟨s,rfl⟩:=Aw sy hs
 have key:∀(a:Fin 8) (b:Fin 5),(fI (a.val:Int) (b.val:Int)).length≤4:=by decide +kernel
 exact key m s
theorem C7 {n:Int} (h:1≤n∧n≤20):(j4 n).length≤2:=by unfold j4;split <;> simp
theorem ve:∀(xs ys:List GEx),cE (xs++ys)=cE xs++cE ys
 |[],ys=>by simp[cE]
 |x::xs,ys=>by simp only[qzH,cE,ve xs ys,qzl]
theorem Gd {xs:List GEx} (h:∀x∈xs,(fG x).length≤16 * exN x):(cE xs).length≤xs.length+16 * em xs:=by
 induction xs with
 |nil=>simp[cE]
 |cons x xs ih=>
  have h1:=h x (by simp)
  have h2:=ih fun y hy=>h y (by simp[hy])
  simp only[cE,qzm,qzg,dB]
  omega
theorem GK:∀x:GEx,cG x=true→(fG x).length≤16 * exN x:=by
 refine jE fun x ih hx=>?_
 obtain⟨x1,x2,x3,x4,x5,x6⟩:=nZ (cT hx).1
 have hf:=Gd (xs:=x.Kids) fun y hy=>ih y hy ((cT hx).2 y hy)
 have hw:=BX x1 x2
 have k3:x.Kids.length≤3:=by
  have:fg x.Kind≤3:=by
   unfold fg;repeat' split
   all_goals omega
  omega
 rw[jV,qzg,qzg,dI x]
 split
 ·rename_i h7
  have:=C7 (x5 h7)
  rw[qzm];omega
 ·rw[u9];omega
theorem yL (xs:List GEx) (w:List UInt8) (hl:xs.length≤3) (L:Nat→ByteArray→Int→Option ByteArray) (R:GEx→Option ByteArray) (hend:∀N s,L (N+1) s (xs.length:Int)=some s)
  (hstep:∀N s i (h:i<xs.length) t,R xs[i]=some t→s.size+1+t.size≤1000000000→L (N+1) s (i:Int)=L N ((s++(⟨#[32]⟩:ByteArray))++t) ((i+1:Nat):Int))
  (hR:∀x∈xs,∃t,R x=some t∧bl t=fG x) (hs:w.length+(cE xs).length≤1000000):∀(d i N:Nat) (s:ByteArray),i+d=xs.length→d<N→bl s=w++cE (xs.take i)→∃t,L N s (i:Int)=some t∧bl t=w++cE xs:=by
 intro d
 induction d with
 |zero=>
  intro i N s hi hN hb
  obtain⟨N,rfl⟩:=qsc N
  rw[show i=xs.length by omega,List.take_length] at hb
  rw[show i=xs.length by omega,hend]
  exact⟨s,rfl,hb⟩
 |succ d ih=>
  intro i N s hi hN hb
  obtain⟨N,rfl⟩:=qsc N
  have hlt:i<xs.length:=by omega
  obtain⟨t,t1,t2⟩:=hR _ (qze hlt)
  have hsplit:cE xs=cE (xs.take i)++(32::(fG xs[i]++cE (xs.drop (i+1)))):=by
   conv=>lhs;rw[←List.take_append_drop i xs,qzj hlt]
   rw[ve];simp only[cE]
  have hlen:=congrArg List.length hsplit
  simp only[qzg,qzm] at hlen
  have hsz:s.size=w.length+(cE (xs.take i)).length:=by rw[hJ,hb,qzg]
  have htz:t.size=(fG xs[i]).length:=by rw[hJ,t2]
  rw[hstep N s i hlt t t1 qom]
  refine ih (i+1) N _ qom qom ?_
  rw[j7,j7,hb,t2,xJ,qzc hlt,ve]
  show w++cE (xs.take i)++[32]++fG xs[i]=w++(cE (xs.take i)++cE [xs[i]])
  simp[cE]
theorem IE:∀x:GEx,cG x=true→exN x≤1000→∀k:Nat,1000+exN x≤k→∃s,aQ.f k x=some s∧bl s=fG x:=by
 refine jE fun x ih hx hn k hk=>?_
 obtain⟨x1,x2,x3,x4,x5,x6⟩:=nZ (cT hx).1
 have htl:=GK x hx
 obtain⟨k,rfl⟩:=qsc k
 rw[aQ.f]
 have hR:∀y∈x.Kids,∃t,aQ.f k y=some t∧bl t=fG y:=fun y hy=>by
  have:=eR hy
  rw[dI] at hn hk
  exact ih y hy ((cT hx).2 y hy) qom k qom
 have k3:x.Kids.length≤3:=by
  have:fg x.Kind≤3:=by
   unfold fg;repeat' split
   all_goals omega
  omega
 by_cases h1:x.Kind=1
 ·rw[if_pos h1]
  obtain⟨t,t1,t2⟩:=Gr x.Sym x2
  rw[t1]
  refine⟨t,rfl,?_⟩
  have hk0:x.Kids=[]:=List.length_eq_zero_iff.1 (by
   have:fg x.Kind=0:=by rw[h1];rfl
   omega)
  rw[t2,jV,h1,hk0,if_neg qom]
  simp[cE]
 rw[if_neg h1]
 obtain⟨ws,wd,w1,w2,w3,w4⟩:=HA x.Kind qom
 rw[w1]
 simp only[qzb]
 rw[ac qom,ac w2,w3]
 simp only[qzb]
 have hsy:=x3 h1
 have hwl:=BX x1 x2
 have hws:wd.size=(fI x.Kind x.Sym).length:=by rw[hJ,w4,hsy]
 by_cases h7:x.Kind=7
 ·rw[if_pos h7]
  obtain⟨dd,d1,d2⟩:=dec_k k qom x.N (x5 h7)
  have hdl:=C7 (x5 h7)
  have hds:dd.size=(j4 x.N).length:=by rw[hJ,d2]
  rw[ac (by show wd.size+1≤_;omega),d1]
  simp only[qzb]
  have hsz:(wd++(⟨#[32]⟩:ByteArray)).size=wd.size+1:=by rw[hJ,j7,qzg,←hJ];rfl
  rw[ac (by rw[hsz];omega)]
  have hw0:bl ((wd++(⟨#[32]⟩:ByteArray))++dd)=fI x.Kind x.Sym++(32::j4 x.N):=by rw[j7,j7,w4,d2,hsy,qzl];rfl
  have hfl:(fI x.Kind x.Sym++(32::j4 x.N)).length+(cE x.Kids).length≤1000000:=by
   rw[jV,if_pos h7] at htl
   simp only[qzg,qzm] at htl⊢
   omega
  obtain⟨t,t1,t2⟩:=yL x.Kids (fI x.Kind x.Sym++(32::j4 x.N)) k3 (aQ.l0 k (aQ.f k) x) (aQ.f k) (fun N s=>by rw[aQ.l0,if_neg qom])
   (fun N s i h t ht hs=>by
    have e1:(s++(⟨#[32]⟩:ByteArray)).size=s.size+1:=by rw[hJ,j7,qzg,←hJ];rfl
    rw[aQ.l0,if_pos qom,ac (by show s.size+1≤_;omega),ac qom,qzd,qzc h]
    simp only[qzb]
    rw[ht]
    simp only[qzb]
    rw[ac (by rw[e1];omega),wrS i qom]) hR hfl x.Kids.length 0 k ((wd++(⟨#[32]⟩:ByteArray))++dd) qom qom (by rw[hw0];simp[cE])
  rw[show((0:Nat):Int)=0 from rfl] at t1
  rw[t1]
  refine⟨t,rfl,?_⟩
  rw[t2,jV,if_pos h7,qzl]
 ·rw[if_neg h7]
  have hfl:(fI x.Kind x.Sym).length+(cE x.Kids).length≤1000000:=by
   rw[jV,if_neg h7] at htl
   simp only[qzg,u9] at htl⊢
   omega
  obtain⟨t,t1,t2⟩:=yL x.Kids (fI x.Kind x.Sym) k3 (aQ.l1 k (aQ.f k) x) (aQ.f k) (fun N s=>by rw[aQ.l1,if_neg qom])
   (fun N s i h t ht hs=>by
    have e1:(s++(⟨#[32]⟩:ByteArray)).size=s.size+1:=by rw[hJ,j7,qzg,←hJ];rfl
    rw[aQ.l1,if_pos qom,ac (by show s.size+1≤_;omega),ac qom,qzd,qzc h]
    simp only[qzb]
    rw[ht]
    simp only[qzb]
    rw[ac (by rw[e1];omega),wrS i qom]) hR hfl x.Kids.length 0 k wd qom qom (by rw[w4,hsy];simp[cE])
  rw[show((0:Nat):Int)=0 from rfl] at t1
  rw[t1]
  refine⟨t,rfl,?_⟩
  rw[t2,jV,if_neg h7,qzO]
/-- texts beside expressions -/
def Par (es:List GEx) (T:List ByteArray):Prop:=T.length=es.length∧∀(i:Nat) (e:GEx),es[i]? =some e→∃t,T[i]? =some t∧bl t=fG e
theorem HJ (k:Nat) (T:List ByteArray) (s:ByteArray) (hl:T.length≤1000):∀(d i N:Nat),i+d=T.length→d<N→(∀j,j<i→∀t,T[j]? =some t→fA t s=false)→
  (∃j:Nat,dU.l0 k T s N (i:Int)=some (.error (j:Int))∧∃t,T[j]? =some t∧fA t s=true)∨(dU.l0 k T s N (i:Int)=some (.ok ())∧∀t∈T,fA t s=false):=by
 intro d
 induction d with
 |zero=>
  intro i N hi hN hb
  obtain⟨N,rfl⟩:=qsc N
  right
  rw[dU.l0,if_neg qom]
  refine⟨rfl,fun t ht=>?_⟩
  obtain⟨j,hj⟩:=List.mem_iff_getElem?.1 ht
  exact hb j (by have:=(List.getElem?_eq_some_iff.1 hj).1;omega) t hj
 |succ d ih=>
  intro i N hi hN hb
  obtain⟨N,rfl⟩:=qsc N
  have hlt:i<T.length:=by omega
  rw[dU.l0,if_pos qom,ac qom,qzd,qzc hlt]
  simp only[qzb]
  by_cases hq:fA T[i] s=true
  ·rw[if_pos hq]
   exact .inl ⟨i,rfl,_,qzc hlt,hq⟩
  ·rw[if_neg hq,wrS i qom]
   refine ih (i+1) N qom qom fun j hj t ht=>?_
   rcases qzM j i with w|w
   ·exact hb j w t ht
   ·have:j=i:=by omega
    subst this
    rw[qzc hlt] at ht
    cases ht
    simpa using hq
/-- where an expression is among others -/
theorem at_k (k:Nat) (hk:2000≤k) {es:List GEx} {T:List ByteArray} (hp:Par es T) (hl:es.length≤1000) (hf:∀e∈es,cG e=true) {x:GEx} (hx:cG x=true) {s:ByteArray} (hs:bl s=fG x) :
  (∃j:Nat,dU.f k T s=some (j:Int)∧es[j]? =some x)∨(dU.f k T s=some (-1)∧x∉es):=by
 have hT:=hp.1
 unfold dU.f
 rcases HJ k T s qom T.length 0 k qom qom (fun j hj=>by omega) with⟨j,e1,t,t1,t2⟩|⟨e1,h⟩
 ·rw[show((0:Nat):Int)=0 from rfl] at e1
  rw[e1]
  left
  refine⟨j,rfl,?_⟩
  have hj:j<es.length:=by have:=(List.getElem?_eq_some_iff.1 t1).1;omega
  obtain⟨t',p1,p2⟩:=hp.2 j _ (qzc hj)
  rw[t1] at p1;cases p1
  rw[Fa,p2,hs,beq_iff_eq] at t2
  rw[qzc hj,(FK (hf _ (qze hj)) hx).1 t2]
 ·rw[show((0:Nat):Int)=0 from rfl] at e1
  rw[e1]
  right
  refine⟨rfl,fun hm=>?_⟩
  obtain⟨j,hj⟩:=List.mem_iff_getElem?.1 hm
  obtain⟨t,p1,p2⟩:=hp.2 j x hj
  have:=h t (qzI p1)
  rw[Fa,p2,hs] at this
  simp at this
theorem GW {es:List GEx} (h:es.Nodup) {x:GEx} {i j:Nat} (hi:es[i]? =some x) (hj:es[j]? =some x):i=j:=
 (List.getElem?_inj (List.getElem?_eq_some_iff.1 hi).1 h).1 (hi.trans hj.symm)
theorem wV {ns:List GNode}:∀(xs:List GEx) (qs:List Int),xs.length=qs.length→(∀(j:Nat) (y:GEx) (q:Int),xs[j]? =some y→qs[j]? =some q→fY y ns=(q,ns))→dL xs ns=(qs,ns)
 |[],[],_,_=>ta ns
 |[],_::_,h,_=>by simp at h
 |_::_,[],h,_=>by simp at h
 |x::xs,q::qs,h,H=>by
  rw[qW,H 0 x q rfl rfl,wV xs qs (by simpa using h) (fun j y q h1 h2=>H (j+1) y q (by simpa using h1) (by simpa using h2))]
theorem EP {es:List GEx} {ns:List GNode} (h:Rep es ns) (hn:es.Nodup):∀x:GEx,∀i:Nat,es[i]? =some x→fY x ns=((i:Int),ns):=by
 refine jE fun x ih i hi=>?_
 have hil:i<ns.length:=by have:=(List.getElem?_eq_some_iff.1 hi).1;rw[h.1] at this;exact this
 obtain⟨e,he,hf,r⟩:=h.2 i _ (qzc hil)
 rw[hi] at he;cases he
 have ha:dL x.Kids ns=(ns[i].Kids,ns):=wV x.Kids ns[i].Kids r.2.2.2.1.symm fun j y q h1 h2=>by
  obtain⟨hj,hj'⟩:=List.getElem?_eq_some_iff.1 h1
  obtain⟨p,_,p2,p3⟩:=r.2.2.2.2 j hj
  rw[h2] at p2
  cases p2
  rw[h1] at p3
  exact ih y (qzI h1) p p3
 rw[xk,ha]
 unfold rQ
 dsimp only
 have hk:∀(j:Nat) (y:GEx),x.Kids[j]? =some y→∃q:Nat,ns[i].Kids[j]? =some (q:Int)∧es[q]? =some y:=fun j y hy=>by
  obtain⟨hj,_⟩:=List.getElem?_eq_some_iff.1 hy
  obtain⟨q,_,q2,q3⟩:=r.2.2.2.2 j hj
  exact⟨q,q2,by rw[q3,hy]⟩
 cases hfi:ns.findIdx? fun m=>pj m (kL x.Kind x.Sym x.N ns[i].Kids) with
 |some j=>
  rw[List.findIdx?_eq_some_iff_getElem] at hfi
  obtain⟨hj,hkey,_⟩:=hfi
  have:=Bv h r.2.2.2.1 hk hj hkey
  rw[GW hn this hi]
 |none=>
  exfalso
  rw[List.findIdx?_eq_none_iff] at hfi
  have:=hfi _ (qze hil)
  have key:pj ns[i] (kL x.Kind x.Sym x.N ns[i].Kids)=true:=(rU _ _).2 ⟨r.1,r.2.1,r.2.2.1,rfl⟩
  rw[key] at this;cases this
theorem Dn {es:List GEx} {x:GEx} (h:es.Nodup) (hx:x∉es):(es++[x]).Nodup:=by
 refine List.nodup_append.2 ⟨h,by simp,fun a ha b hb=>?_⟩
 rw[List.mem_singleton.1 hb]
 intro e
 subst e
 exact hx ha
theorem F6 {es:List GEx} {T:List ByteArray} {x:GEx} {s:ByteArray} (h:Par es T) (hs:bl s=fG x):Par (es++[x]) (T++[s]):=by
 refine⟨by simp[h.1],fun i e he=>?_⟩
 rcases qzM i es.length with hi|hi
 ·rw[qzF hi] at he
  rw[qzF (by rw[h.1];exact hi)]
  exact h.2 i e he
 ·rw[qzu hi] at he
  have:i=es.length:=by
   have:=(List.getElem?_eq_some_iff.1 he).1
   simp only[qzq] at this;omega
  subst this
  rw[qzV,qzs] at he
  cases he
  rw[←h.1,qzu (qzi _),qzV]
  exact⟨s,rfl,hs⟩
/-- what adding an expression gives -/
def Hk (k:Nat) (x:GEx):Prop:=∀(es:List GEx) (ns:List GNode) (T:List ByteArray) (m s n:Int) (f:Bool),Rep es ns→es.Nodup→Par es T→(∀e∈es,cG e=true)→es.length+exN x≤1000→
 ∃es' T',Rep (es++es') (fY x ns).2∧(es++es').Nodup∧Par (es++es') T'∧(∀e∈es',e∈o8 x)∧es'.length≤exN x∧(∃q:Nat,(fY x ns).1=(q:Int)∧(es++es')[q]? =some x)∧
  cP.f k ⟨m,ns,s,n,f⟩ T x=some (⟨m,(fY x ns).2,s,n,f⟩,T',(fY x ns).1)
theorem FX (k:Nat) (x:GEx) (hk3:x.Kids.length≤1000) (hform:∀y∈x.Kids,cG y=true) (H:∀y∈x.Kids,Hk k y):∀(d i N:Nat) (es:List GEx) (ns:List GNode) (T:List ByteArray) (acc:List Int) (m s n:Int) (f:Bool),i+d=x.Kids.length→d<N→acc.length=i→Rep es ns→es.Nodup→Par es T→(∀e∈es,cG e=true)→es.length+em (x.Kids.drop i)≤1000→
  ∃es' T',Rep (es++es') (dL (x.Kids.drop i) ns).2∧(es++es').Nodup∧Par (es++es') T'∧(∀e∈es',e∈mm (x.Kids.drop i))∧es'.length≤em (x.Kids.drop i)∧
   ((dL (x.Kids.drop i) ns).1.length=(x.Kids.drop i).length∧∀(j:Nat) (y:GEx),(x.Kids.drop i)[j]? =some y→∃q:Nat,(dL (x.Kids.drop i) ns).1[j]? =some (q:Int)∧(es++es')[q]? =some y)∧
   cP.l0 k (cP.f k) x N T m ns s n f acc (i:Int)=some (T',m,(dL (x.Kids.drop i) ns).2,s,n,f,acc++(dL (x.Kids.drop i) ns).1):=by
 intro d
 induction d with
 |zero=>
  intro i N es ns T acc m s n f hi hN ha hR hn hp hf hb
  obtain⟨N,rfl⟩:=qsc N
  rw[qzn qom,ta]
  refine⟨[],T,by rwa [qzT],by rwa [qzT],by rwa [qzT],by simp,by simp[fC],⟨rfl,fun j y hy=>by simp at hy⟩,?_⟩
  rw[cP.l0,if_neg qom,qzT]
 |succ d ih=>
  intro i N es ns T acc m s n f hi hN ha hR hn hp hf hb
  obtain⟨N,rfl⟩:=qsc N
  have hlt:i<x.Kids.length:=by omega
  have hm:=qze hlt
  rw[qzj hlt] at hb⊢
  rw[dB] at hb
  obtain⟨e1,T1,a1,a2,a3,a4,a5,⟨q,a6,a7⟩,a8⟩:=H _ hm es ns T m s n f hR hn hp hf qom
  have hf1:∀e∈es++e1,cG e=true:=fun e he=>(List.mem_append.1 he).elim (hf e) fun w=>EN _ (hform _ hm) e (a4 e w)
  obtain⟨e2,T2,b1,b2,b3,b4,b5,⟨b6,b7⟩,b8⟩:=ih (i+1) N (es++e1) (fY x.Kids[i] ns).2 T1 (acc++[(fY x.Kids[i] ns).1]) m s n f qom qom (by rw[qzg,qzq];omega) a1 a2 a3 hf1 (by rw[qzg];omega)
  rw[qW]
  dsimp only
  refine⟨e1++e2,T2,by rw[←qzl];exact b1,by rw[←qzl];exact b2,by rw[←qzl];exact b3,fun e he=>?_,by rw[qzg,dB];omega,⟨by rw[qzm,qzm,b6],fun j y hj=>?_⟩,?_⟩
  ·simp only[mm,List.mem_append]
   exact(List.mem_append.1 he).elim (fun w=>.inl (a4 e w)) fun w=>.inr (b4 e w)
  ·rw[←qzl]
   cases j with
   |zero=>
    simp only[qzs,qzh] at hj
    subst hj
    exact⟨q,by rw[qzs,a6],tQ a7⟩
   |succ j=>
    rw[yz] at hj⊢
    exact b7 j y hj
  ·rw[cP.l0,if_pos qom,ac qom,qzd,qzc hlt]
   simp only[qzb]
   rw[a8]
   simp only[qzb]
   rw[ac qom,wrS i qom,b8,qzl]
   rfl
theorem HB:∀x:GEx,gO x→∀k:Nat,3000+exN x≤k→Hk k x:=by
 refine jE fun x ih hx k hk es ns T m s n f hR hn hp hf hb=>?_
 obtain⟨k,rfl⟩:=qsc k
 have h12:=hx.2
 obtain⟨t,t1,t2⟩:=IE x hx.1 qom k qom
 rw[cP.f,t1]
 simp only[qzb]
 rcases at_k k qom hp qom hf hx.1 t2 with⟨j,j1,j2⟩|⟨j1,j2⟩
 ·rw[j1]
  simp only[qzb]
  rw[if_neg qom,EP hR hn x j j2]
  exact⟨[],T,by rwa [qzT],by rwa [qzT],by rwa [qzT],by simp,by simp,⟨j,rfl,by rwa [qzT]⟩,rfl⟩
 ·rw[j1]
  simp only[qzb]
  rw[if_pos (by decide)]
  have hkl:=ig x.Kids
  have hxe:=dI x
  obtain⟨e1,T1,a1,a2,a3,a4,a5,⟨a6,a7⟩,a8⟩:=FX k x qom (cT hx.1).2 (fun y hy=>ih y hy (hx.kid hy) k (by have:=eR hy;omega)) x.Kids.length 0 k es ns T [] m s n f qom qom rfl hR hn hp hf (by rw[qzB];omega)
  rw[qzB] at a1 a4 a5 a6 a7 a8
  rw[show((0:Nat):Int)=0 from rfl] at a8
  rw[a8]
  simp only[qzb,qzO]
  have hnot:x∉es++e1:=fun hm=>by
   rcases List.mem_append.1 hm with w|w
   ·exact j2 w
   ·obtain⟨z,hz,q⟩:=nE.1 (a4 x w)
    have:=FU z x q
    have:=eR hz
    omega
  have hplace:fY x ns=(((dL x.Kids ns).2.length:Int),(dL x.Kids ns).2++[kL x.Kind x.Sym x.N (dL x.Kids ns).1]):=by
   rw[xk]
   unfold rQ
   cases hfi:(dL x.Kids ns).2.findIdx? fun q=>pj q (kL x.Kind x.Sym x.N (dL x.Kids ns).1) with
   |none=>rfl
   |some i=>
    exfalso
    rw[List.findIdx?_eq_some_iff_getElem] at hfi
    obtain⟨hi,hkey,_⟩:=hfi
    exact hnot (qzI (Bv a1 a6 a7 hi hkey))
  have hlen1:=a1.1
  have hT1:=a3.1
  rw[qzg] at hlen1 hT1
  rw[ac qom,ac qom,hplace]
  refine⟨e1++[x],T1++[t],?_,?_,?_,fun e he=>?_,by rw[qzg,qzq];omega,⟨(dL x.Kids ns).2.length,rfl,?_⟩,?_⟩
  ·rw[←qzl];exact GX hx a1 a6 a7
  ·rw[←qzl];exact Dn a2 hnot
  ·rw[←qzl];exact F6 a3 t2
  ·rcases List.mem_append.1 he with w|w
   ·obtain⟨z,hz,q⟩:=nE.1 (a4 e w)
    exact ru.2 (.inr ⟨z,hz,q⟩)
   ·rw[List.mem_singleton.1 w];exact ru.2 (.inl rfl)
  ·rw[←qzl,←a1.1,qzu (qzi _),qzV];rfl
  ·rw[wrP _ qom]
   rfl
theorem xT (k:Nat) (hk:2000000000000≤k) (x:GEx) (mode:Int) (hx:exN x≤1000000) :
  j6.f k x mode=some (if lj x=true∧(0≤mode∧mode≤4) then⟨mode,(fY x []).2,0,0,false⟩ else⟨0,[],0,0,false⟩):=by
 unfold j6.f
 rw[mB x qom k qom]
 simp only[qzb]
 by_cases h1:lj x=true
 ·rw[if_pos h1]
  have hf:=sk h1
  by_cases h2:0≤mode∧mode≤4
  ·rw[(yS h2).2,if_pos ⟨h1,h2⟩]
   simp only[qzb,if_true]
   obtain⟨es',T',_,_,_,_,_,_,e⟩:=HB x ⟨hf.2,hf.1⟩ k qom [] [] [] mode 0 0 false yb (by simp) ⟨rfl,fun i e h=>by simp at h⟩ (by simp) (by simp;omega)
   rw[e]
   rfl
  ·rw[(sa mode).2,if_neg (fun q=>h2 q.2)]
   simp only[qzb]
   rw[if_neg (by simpa using h2)]
 ·rw[if_neg h1,if_neg (fun q=>h1 q.1)]
theorem I2 (k:Nat) (l:List GOcc) (t:Int) (hl:l.length≤1000000):∀(d i N:Nat) (a b:List GOcc),i+d=l.length→d<N→a.length≤i→b.length≤i→dX.l0 k l t N a b (i:Int)=some (a++(l.drop i).filter (fun o=>o.To==t),b++(l.drop i).filter (fun o=> !(o.To==t))):=by
 intro d
 induction d with
 |zero=>
  intro i N a b hi hN ha hb
  obtain⟨N,rfl⟩:=qsc N
  rw[dX.l0,if_neg qom,qzn qom]
  simp
 |succ d ih=>
  intro i N a b hi hN ha hb
  obtain⟨N,rfl⟩:=qsc N
  have hlt:i<l.length:=by omega
  rw[dX.l0,if_pos qom,ac qom,qzd,qzc hlt,qzj hlt]
  simp only[qzb]
  by_cases h:l[i].To=t
  ·rw[if_pos h,ac qom,ac qom,wrS i qom,ih (i+1) N _ _ qom qom (by rw[qzg,qzq];omega) qom]
   rw[List.filter_cons_of_pos (by simpa using h),List.filter_cons_of_neg (by simpa using h),qzl];rfl
  ·rw[if_neg h,ac qom,ac qom,wrS i qom,ih (i+1) N _ _ qom qom qom (by rw[qzg,qzq];omega)]
   rw[List.filter_cons_of_neg (by simpa using h),List.filter_cons_of_pos (by simpa using h),qzl];rfl
theorem IQ (k:Nat) (hk:1000000000000≤k) (l:List GOcc) (t:Int) (hl:l.length≤1000000):dX.f k l t=some (atM l t,l.filter fun o=> !(o.To==t)):=by
 have:=I2 k l t hl l.length 0 k [] [] qom qom (by simp) (by simp)
 rw[show((0:Nat):Int)=0 from rfl,qzB,qzO,qzO] at this
 unfold dX.f
 rw[this];rfl
theorem G1 (o:GOcc) (n:Int) (h:Few o) (h1: -100000≤o.To+n∧o.To+n≤200000):iD.f o n=some (jC n o):=by
 unfold iD.f
 rw[oi _ h]
 simp only[qzb]
 rw[wr _ qom]
 rfl
theorem HL (k:Nat) (hk:1000000000000≤k) (n:GNode) (t:Int) (kid:List GOcc) (hd:Ok 40 n.Due) (hm:kid.length≤80000000000) (hid:Ids kid) (ht:∀o∈kid, -100000≤o.To+n.N∧o.To+n.N≤200000) :
  dM.f k n t kid=some (⟨n.Kind,n.Sym,n.N,n.Kids,n.Pair,n.Span,Bo t n.N n.Due kid,n.Many⟩,atM n.Due t):=by
 unfold dM.f
 rw[IQ k hk n.Due t (by have:=hd.2.2;omega)]
 simp only[qzb]
 have hd2:=hd.filter (fun o=> !(o.To==t))
 have:=cD kid (fun s o=>(iD.f o n.N).bind fun x=>cl.f k s x) (dM.l0 k n kid) (fun s o=>cJ s (jC n.N o)) (fun j s=>Ok (40+j) s)
  (fun N s=>by rw[dM.l0,if_neg qom])
  (fun N s j h=>by
   rw[dM.l0,if_pos qom,ac qom,qzd,qzc h]
   simp only[qzb,qzQ]
   rw[wrS j qom])
  (fun j s h hI=>by
   have ho:=hid _ (qze h)
   have hf:Few kid[j]:=by have:=co ho;omega
   have:=hI.2.2
   refine⟨?_,(hI.put (qY ho)).mono qom⟩
   rw[G1 _ _ hf (ht _ (qze h))]
   simp only[qzb]
   rw[mE k hk _ _ qom hI.2.1.few (Gj hf)])
  k (n.Due.filter fun o=> !(o.To==t)) qom (by simpa using hd2)
 rw[this.1]
 rfl
theorem Hv (k:Nat) (hk:1000000000000≤k) (g:GGraph) (hmo:0≤g.Mode∧g.Mode≤4) (t sy:Int) (ev:Option Int) (hsy:∀s,0≤s→(s=sy↔ev=some s)) (f0:Bool) (N i:Nat) (ns:List GNode) (full:Bool) (found:List (List GOcc)) (n:GNode) (e:GEx) (es:List GEx) (hi:i<g.Nodes.length) (hg:g.Nodes.length≤1000) (hl:ns.length=g.Nodes.length) (hn:ns[i]? =some n)
  (hx:gO e) (hR:lK es i n e) (hS:lB t n) (hf:found.length=i) (hF:jw t es found) (hs:0≤g.Seen∧g.Seen≤23) (ht:0≤t∧t≤100000) :
  aK.l0 k g t sy (N+1) ns full found (i:Int) f0=aK.l0 k g t sy N (ns.set i (eP (aw g.Mode g.Seen t ev found n))) (full||decide (40<(eP (aw g.Mode g.Seen t ev found n)).Many)) (found++[(aw g.Mode g.Seen t ev found n).2]) ((i+1:Nat):Int) f0:=by
 have hout:=tT (mode:=g.Mode) (seen:=g.Seen) (ev:=ev) hx hR hS hf hF hs
 have h12:=hx.2
 have hsm:=hout.small h12
 have hkl:=hR.2.2.2.1
 obtain⟨S1,S2,S3,S4,S5,m0,m1,T1,T2,T3,T4⟩:=hS
 have W:∀(q:Nat),q≤30420000000→IntKind.wrap .i64 (n.Many+(q:Int))=n.Many+(q:Int):=fun q hq=>wr _ qom
 have fin:∀(m:GNode) (out:List GOcc),aw g.Mode g.Seen t ev found n=(m,out)→m.Many=n.Many→∀m':GNode,m'=eP (m,out)→
   (if full=true then req ((0:Int)≤(i:Int)) (req ((i:Int)<(ns.length:Nat)) (req ((found.length+1) * 24≤140737488355328) (aK.l0 k g t sy N (ns.set i m') true (found++[out]) ((i+1:Nat):Int) f0))) else req ((0:Int)≤(i:Int)) (req ((i:Int)<(ns.length:Nat)) (req ((found.length+1) * 24≤140737488355328) (aK.l0 k g t sy N (ns.set i m') (decide (40<n.Many+(out.length:Int))) (found++[out]) ((i+1:Nat):Int) f0)))) =
   aK.l0 k g t sy N (ns.set i (eP (aw g.Mode g.Seen t ev found n))) (full||decide (40<(eP (aw g.Mode g.Seen t ev found n)).Many)) (found++[(aw g.Mode g.Seen t ev found n).2]) ((i+1:Nat):Int) f0:=by
  intro m out h hm m' hm'
  rw[h,hm']
  have:(eP (m,out)).Many=n.Many+(out.length:Int):=by show m.Many+_=_;rw[hm]
  rw[this]
  cases full
  ·rw[if_neg (by decide),oc,ac qom,ac qom,ac qom]
  ·rw[if_pos rfl,Bool.true_or,ac qom,ac qom,ac qom]
 rw[aK.l0,if_pos qom,ac qom,ac qom,qzd,hn]
 simp only[qzb]
 rw[wrS i qom]
 rcases gZ (cT hx.1).1 with⟨hk',hK⟩|⟨hk',hK⟩|⟨hk',hK⟩|⟨hk',hK⟩|⟨hk',hK⟩|⟨hk',hK⟩|⟨hk',hK⟩ <;> rw[←hR.1] at hk'
 ·rw[if_pos hk']
  have hsym0:0≤n.Sym:=by rw[hR.2.1];exact(nZ (cT hx.1).1).2.1.1
  by_cases hq:n.Sym=sy
  ·have he:ev=some n.Sym:=(hsy n.Sym hsym0).1 hq
   rw[if_pos hq,ac (by decide)]
   have hfd:aw g.Mode g.Seen t ev found n=(n,[⟨t,t,[g.Seen]⟩]):=by unfold aw;rw[if_pos hk',if_pos he]
   rw[show IntKind.wrap .i64 (n.Many+(((0+1:Nat)):Int))=n.Many+(([⟨t,t,[g.Seen]⟩]:List GOcc).length:Int) from W 1 qom]
   exact fin n _ hfd rfl _ rfl
  ·have he:¬ev=some n.Sym:=fun w=>hq ((hsy n.Sym hsym0).2 w)
   rw[if_neg hq]
   have hfd:aw g.Mode g.Seen t ev found n=(n,[]):=by unfold aw;rw[if_pos hk',if_neg he]
   rw[show IntKind.wrap .i64 (n.Many+((0:Nat):Int))=n.Many+(([]:List GOcc).length:Int) from W 0 qom]
   exact fin n _ hfd rfl _ rfl
 ·have a:=bk hR hf hF (j:=0) (x:=e.Kids[0]'qom) (by simp)
  have b:=bk hR hf hF (j:=1) (x:=e.Kids[1]'qom) (by simp)
  have hN:exN (e.Kids[0]'qom)+exN (e.Kids[1]'qom)+1=exN e:=by obtain⟨x,y,hK'⟩:=gB hK;rw[gC hK'];simp only[hK',qzy,qzE]
  have h2:=a.two b qom
  rw[cp] at h2
  obtain⟨q0,a1,a2,a3,_⟩:=bP hR hf (j:=0) (by rw[hK];decide)
  obtain⟨q1,b1,b2,b3,_⟩:=bP hR hf (j:=1) (by rw[hK];decide)
  rw[if_neg qom,if_pos hk']
  rw[ac (by decide),ac qom,a2]
  simp only[qzb]
  rw[ac qom,ac qom,qzd,a3]
  simp only[qzb]
  rw[rE k hk _ qom a.2.1.few]
  simp only[qzb]
  rw[ac (by decide),ac qom,b2]
  simp only[qzb]
  rw[ac qom,ac qom,qzd,b3]
  simp only[qzb]
  rw[ep k hk _ _ qom a.2.1.few b.2.1.few]
  simp only[qzb]
  have hfd:aw g.Mode g.Seen t ev found n=(n,cM (ap found n 0) (ap found n 1)):=by unfold aw;rw[if_neg qom,if_pos hk']
  rw[hfd] at hsm
  rw[W _ hsm]
  exact fin n _ hfd rfl _ rfl
 ·have a:=bk hR hf hF (j:=0) (x:=e.Kids[0]'qom) (by simp)
  have b:=bk hR hf hF (j:=1) (x:=e.Kids[1]'qom) (by simp)
  have hN:exN (e.Kids[0]'qom)+exN (e.Kids[1]'qom)+1=exN e:=by obtain⟨x,y,hK'⟩:=gB hK;rw[gC hK'];simp only[hK',qzy,qzE]
  have h2:=a.two b qom
  rw[cp] at h2
  obtain⟨q0,a1,a2,a3,_⟩:=bP hR hf (j:=0) (by rw[hK];decide)
  obtain⟨q1,b1,b2,b3,_⟩:=bP hR hf (j:=1) (by rw[hK];decide)
  rw[if_neg qom,if_neg qom,if_pos hk']
  rw[ac (by decide),ac qom,a2]
  simp only[qzb]
  rw[ac qom,ac qom,qzd,a3]
  simp only[qzb]
  rw[ac (by decide),ac qom,b2]
  simp only[qzb]
  rw[ac qom,ac qom,qzd,b3]
  simp only[qzb]
  rw[Bc k hk g.Mode hmo n.Pair _ _ 40 40 (ap found n 0).length (ap found n 1).length S1 S2 a.2.1 b.2.1 (qzi _) (qzi _) (by rw[Nat.mul_add,Nat.mul_comm (ap found n 1).length (ap found n 0).length];omega)]
  simp only[qzb]
  have hfd:aw g.Mode g.Seen t ev found n=(⟨n.Kind,n.Sym,n.N,n.Kids,⟨(gi g.Mode n.Pair.Left n.Pair.Right (ap found n 0) (ap found n 1)).1,(gi g.Mode n.Pair.Left n.Pair.Right (ap found n 0) (ap found n 1)).2.1⟩,n.Span,n.Due,n.Many⟩,(gi g.Mode n.Pair.Left n.Pair.Right (ap found n 0) (ap found n 1)).2.2):=by unfold aw;rw[if_neg qom,if_neg qom,if_pos hk']
  rw[hfd] at hsm
  rw[W _ hsm]
  exact fin _ _ hfd rfl _ rfl
 ·have a:=bk hR hf hF (j:=0) (x:=e.Kids[0]'qom) (by simp)
  have b:=bk hR hf hF (j:=1) (x:=e.Kids[1]'qom) (by simp)
  have hN:exN (e.Kids[0]'qom)+exN (e.Kids[1]'qom)+1=exN e:=by obtain⟨x,y,hK'⟩:=gB hK;rw[gC hK'];simp only[hK',qzy,qzE]
  have h2:=a.two b qom
  rw[cp] at h2
  obtain⟨q0,a1,a2,a3,_⟩:=bP hR hf (j:=0) (by rw[hK];decide)
  obtain⟨q1,b1,b2,b3,_⟩:=bP hR hf (j:=1) (by rw[hK];decide)
  rw[if_neg qom,if_neg qom,if_neg qom,if_pos hk']
  rw[ac (by decide),ac qom,a2]
  simp only[qzb]
  rw[ac qom,ac qom,qzd,a3]
  simp only[qzb]
  rw[ac (by decide),ac qom,b2]
  simp only[qzb]
  rw[ac qom,ac qom,qzd,b3]
  simp only[qzb]
  rw[BB k hk g.Mode hmo n.Pair _ _ 40 (ap found n 1).length qom qom qom S1 a.2.1 b.2.1 qom (qzi _)]
  simp only[qzb]
  have hfd:aw g.Mode g.Seen t ev found n=(⟨n.Kind,n.Sym,n.N,n.Kids,⟨(kv g.Mode n.Pair.Left (ap found n 0) (ap found n 1)).1,n.Pair.Right⟩,n.Span,n.Due,n.Many⟩,(kv g.Mode n.Pair.Left (ap found n 0) (ap found n 1)).2):=by unfold aw;rw[if_neg qom,if_neg qom,if_neg qom,if_pos hk']
  rw[hfd] at hsm
  rw[W _ hsm]
  exact fin _ _ hfd rfl _ rfl
 ·have a:=bk hR hf hF (j:=0) (x:=e.Kids[0]'qom) (by simp)
  have b:=bk hR hf hF (j:=1) (x:=e.Kids[1]'qom) (by simp)
  have c:=bk hR hf hF (j:=2) (x:=e.Kids[2]'qom) (by simp)
  have hN:exN (e.Kids[0]'qom)+exN (e.Kids[1]'qom)+exN (e.Kids[2]'qom)+1=exN e:=by obtain⟨x,y,z,hK'⟩:=iQ hK;rw[iR hK'];simp only[hK',qzy,qzE]
  have:=ft (e.Kids[1]'qom)
  have:=ft (e.Kids[2]'qom)
  have h2:=a.two c qom
  have h3:=b.small qom
  rw[cp] at h2
  obtain⟨q0,a1,a2,a3,_⟩:=bP hR hf (j:=0) (by rw[hK];decide)
  obtain⟨q1,b1,b2,b3,_⟩:=bP hR hf (j:=1) (by rw[hK];decide)
  obtain⟨q2,c1,c2,c3,_⟩:=bP hR hf (j:=2) (by rw[hK];decide)
  rw[if_neg qom,if_neg qom,if_neg qom,if_neg qom,if_pos hk']
  rw[ac (by decide),ac qom,a2]
  simp only[qzb]
  rw[ac qom,ac qom,qzd,a3]
  simp only[qzb]
  rw[ac (by decide),ac qom,b2]
  simp only[qzb]
  rw[ac qom,ac qom,qzd,b3]
  simp only[qzb]
  rw[ac (by decide),ac qom,c2]
  simp only[qzb]
  rw[ac qom,ac qom,qzd,c3]
  simp only[qzb]
  rw[AS k hk g.Mode hmo n.Span _ _ _ 40 (ap found n 2).length qom qom qom S3 S4 a.2.1 b.2.1 c.2.1 qom qom (qzi _)]
  simp only[qzb]
  have hfd:aw g.Mode g.Seen t ev found n=(⟨n.Kind,n.Sym,n.N,n.Kids,n.Pair,⟨(gb g.Mode n.Span.Left n.Span.Mid (ap found n 0) (ap found n 1) (ap found n 2)).1,(gb g.Mode n.Span.Left n.Span.Mid (ap found n 0) (ap found n 1) (ap found n 2)).2.1⟩,n.Due,n.Many⟩,(gb g.Mode n.Span.Left n.Span.Mid (ap found n 0) (ap found n 1) (ap found n 2)).2.2):=by unfold aw;rw[if_neg qom,if_neg qom,if_neg qom,if_neg qom,if_pos hk']
  rw[hfd] at hsm
  rw[W _ hsm]
  exact fin _ _ hfd rfl _ rfl
 ·have a:=bk hR hf hF (j:=0) (x:=e.Kids[0]'qom) (by simp)
  have b:=bk hR hf hF (j:=1) (x:=e.Kids[1]'qom) (by simp)
  have c:=bk hR hf hF (j:=2) (x:=e.Kids[2]'qom) (by simp)
  have hN:exN (e.Kids[0]'qom)+exN (e.Kids[1]'qom)+exN (e.Kids[2]'qom)+1=exN e:=by obtain⟨x,y,z,hK'⟩:=iQ hK;rw[iR hK'];simp only[hK',qzy,qzE]
  have:=ft (e.Kids[1]'qom)
  have:=ft (e.Kids[2]'qom)
  have h2:=a.two b qom
  have h3:=c.small qom
  rw[cp] at h2
  obtain⟨q0,a1,a2,a3,_⟩:=bP hR hf (j:=0) (by rw[hK];decide)
  obtain⟨q1,b1,b2,b3,_⟩:=bP hR hf (j:=1) (by rw[hK];decide)
  obtain⟨q2,c1,c2,c3,_⟩:=bP hR hf (j:=2) (by rw[hK];decide)
  rw[if_neg qom,if_neg qom,if_neg qom,if_neg qom,if_neg qom,if_pos hk']
  rw[ac (by decide),ac qom,a2]
  simp only[qzb]
  rw[ac qom,ac qom,qzd,a3]
  simp only[qzb]
  rw[ac (by decide),ac qom,b2]
  simp only[qzb]
  rw[ac qom,ac qom,qzd,b3]
  simp only[qzb]
  rw[ac (by decide),ac qom,c2]
  simp only[qzb]
  rw[ac qom,ac qom,qzd,c3]
  simp only[qzb]
  rw[zN k hk g.Mode n.Span _ _ _ 40 (ap found n 1).length qom qom qom S3 S4 a.2.1 b.2.1 c.2.1 qom (qzi _) qom]
  simp only[qzb]
  have hfd:aw g.Mode g.Seen t ev found n=(⟨n.Kind,n.Sym,n.N,n.Kids,n.Pair,⟨(cF g.Mode n.Span.Left n.Span.Mid (ap found n 0) (ap found n 1) (ap found n 2)).1,(cF g.Mode n.Span.Left n.Span.Mid (ap found n 0) (ap found n 1) (ap found n 2)).2.1⟩,n.Due,n.Many⟩,(cF g.Mode n.Span.Left n.Span.Mid (ap found n 0) (ap found n 1) (ap found n 2)).2.2):=by unfold aw;rw[if_neg qom,if_neg qom,if_neg qom,if_neg qom,if_neg qom,if_pos hk']
  rw[hfd] at hsm
  rw[W _ hsm]
  exact fin _ _ hfd rfl _ rfl
 ·have a:=bk hR hf hF (j:=0) (x:=e.Kids[0]'qom) (by simp)
  have hN:exN (e.Kids[0]'qom)+1=exN e:=by obtain⟨x,hK'⟩:=tP hK.1;rw[ua hK'];simp only[hK',qzy]
  have hsa:=a.small qom
  obtain⟨q0,a1,a2,a3,_⟩:=bP hR hf (j:=0) (by rw[hK.1];decide)
  rw[if_neg qom,if_neg qom,if_neg qom,if_neg qom,if_neg qom,if_neg qom,if_pos hk']
  rw[ac (by decide),ac qom,a2]
  simp only[qzb]
  rw[ac qom,ac qom,qzd,a3]
  simp only[qzb]
  rw[HL k hk n t _ S5 qom a.2.1 (fun o ho=>by have:=a.2.2.2 o ho;have h7:=hR.2.2.1;have hh:=hK.2;omega)]
  simp only[qzb]
  have hfd:aw g.Mode g.Seen t ev found n=(⟨n.Kind,n.Sym,n.N,n.Kids,n.Pair,n.Span,Bo t n.N n.Due (ap found n 0),n.Many⟩,atM n.Due t):=by unfold aw;rw[if_neg qom,if_neg qom,if_neg qom,if_neg qom,if_neg qom,if_neg qom]
  rw[hfd] at hsm
  rw[W _ hsm]
  exact fin _ _ hfd rfl _ rfl
theorem min_k (a b:Int):jb.f a b=some (if b<a then b else a):=by
 unfold jb.f
 by_cases h:a<b
 ·rw[if_pos h,if_neg qom]
 ·rw[if_neg h]
  by_cases h2:b<a
  ·rw[if_pos h2]
  ·rw[if_neg h2,show a=b by omega]
theorem GN (k:Nat) (g:GGraph) (i:Nat) (n:GNode) (hn:g.Nodes[i]? =some n) (t:Int) (hk:2000≤k) (hl:n.Due.length≤1000):bB.l3 k g (i:Int) k t 0=some (ir t n.Due):=by
 have:=cD n.Due (fun s o=>some (if o.To<s then o.To else s)) (bB.l3 k g (i:Int)) (fun s o=>if o.To<s then o.To else s) (fun _ _=>True)
  (fun N s=>by
   rw[bB.l3,ac qom,qzd,hn]
   simp only[qzb]
   rw[if_neg qom])
  (fun N s j h=>by
   rw[bB.l3,ac qom,qzd,hn]
   simp only[qzb]
   rw[if_pos qom,ac qom]
   rw[ac qom,qzd,qzc h]
   simp only[qzb]
   rw[min_k,wrS j qom]
   rfl)
  (fun j s h _=>⟨rfl,trivial⟩) k t qom trivial
 exact this.1
theorem GL (k:Nat) (hk:1000000000000≤k) (g:GGraph) (b:Int) (hg:g.Nodes.length≤1000) (hd:∀n∈g.Nodes,n.Due.length≤1000):bB.f k g b=some (bX g.Nodes b):=by
 have L:∀(d i N:Nat) (s:Int),i+d=g.Nodes.length→d<N→bB.l2 k g N s (i:Int)=some (bX (g.Nodes.drop i) s):=by
  intro d
  induction d with
  |zero=>
   intro i N s hi hN
   obtain⟨N,rfl⟩:=qsc N
   rw[bB.l2,if_neg qom,qzn qom];rfl
  |succ d ih=>
   intro i N s hi hN
   obtain⟨N,rfl⟩:=qsc N
   have hlt:i<g.Nodes.length:=by omega
   rw[bB.l2,if_pos qom,GN k g i _ (qzc hlt) s qom (hd _ (qze hlt))]
   simp only[qzb]
   rw[wrS i qom,ih (i+1) N _ qom qom,qzj hlt]
   rfl
 have:=L g.Nodes.length 0 k b qom qom
 rw[show((0:Nat):Int)=0 from rfl,qzB] at this
 unfold bB.f
 rw[this];rfl
theorem Cp {τ:Type} {mode seen t:Int} {ev:Option Int} {es:List GEx} {nodes:List GNode} (hR:mK t es nodes) (hs:0≤seen∧seen≤23) (full0:Bool) (ret:List GNode→Bool→List (List GOcc)→τ) (L:Nat→List GNode→Bool→List (List GOcc)→Int→Option τ)
  (hend:∀N ns full found,ns.length=nodes.length→L (N+1) ns full found (nodes.length:Int)=some (ret ns full found))
  (hstep:∀(N i:Nat) (ns:List GNode) (full:Bool) (found:List (List GOcc)) (n:GNode) (e:GEx),i<nodes.length→ns.length=nodes.length→ns[i]? =some n→gO e→lK es i n e→lB t n→found.length=i→jw t es found→
   L (N+1) ns full found (i:Int)=L N (ns.set i (eP (aw mode seen t ev found n))) (full||decide (40<(eP (aw mode seen t ev found n)).Many)) (found++[(aw mode seen t ev found n).2]) ((i+1:Nat):Int)) :
  ∀(d N i:Nat),i+d=nodes.length→d<N→L N ((fx mode seen t ev nodes i).1++nodes.drop i) (full0||dy (fx mode seen t ev nodes i).1) (fx mode seen t ev nodes i).2 (i:Int)=some (ret (ax mode seen t ev nodes).1 (full0||dy (ax mode seen t ev nodes).1) (ax mode seen t ev nodes).2):=by
 intro d
 induction d with
 |zero=>
  intro N i hi hN
  obtain⟨N,rfl⟩:=qsc N
  have:i=nodes.length:=by omega
  subst this
  rw[oL,List.drop_length,qzT,hend _ _ _ _ (gx mode seen t ev nodes).1]
 |succ d ih=>
  intro N i hi hN
  obtain⟨N,rfl⟩:=qsc N
  have hlt:i<nodes.length:=by omega
  have hl:=j9 (mode:=mode) (seen:=seen) (t:=t) (ev:=ev) (ns:=nodes) (i:=i) qom
  obtain⟨e,he,hx,hr⟩:=hR.1.2 i nodes[i] (qzc hlt)
  have hn:((fx mode seen t ev nodes i).1++nodes.drop i)[i]? =some nodes[i]:=by
   rw[qzu qom,hl.1,qzV,qzj hlt];rfl
  rw[hstep N i _ _ _ nodes[i] e hlt (by rw[qzg,qzU,hl.1];omega) hn hx hr (hR.2.2 _ (qze _)) hl.2 (nH hR hs qom)]
  have:=ih N (i+1) qom qom
  rw[lD hlt] at this
  simp only[nR] at this
  rw[←this,qzj hlt,List.set_append_right _ _ qom,hl.1,qzV,List.set_cons_zero,qzl,List.singleton_append]
  congr 1
  unfold dy
  rw[List.any_append,Bool.or_assoc]
  simp
theorem B6 (k:Nat) (hk:1000000000000≤k) (g:GGraph) (hmo:0≤g.Mode∧g.Mode≤4) (t sy:Int) (ev:Option Int) (hsy:∀s,0≤s→(s=sy↔ev=some s)) (es:List GEx) (hR:mK t es g.Nodes) (h1:1≤g.Nodes.length) (hs:0≤g.Seen∧g.Seen≤23) (ht:0≤t∧t≤100000) :
  aK.f k g t sy=some (⟨g.Mode,(ax g.Mode g.Seen t ev g.Nodes).1,g.Seen,g.Now,g.Full||dy (ax g.Mode g.Seen t ev g.Nodes).1⟩,gP (ax g.Mode g.Seen t ev g.Nodes).2):=by
 have h12:=hR.2.1
 have:=Cp (mode:=g.Mode) (ev:=ev) hR hs g.Full (fun ns full found=>(ns,full,found,g.Full)) (fun N ns full found i=>aK.l0 k g t sy N ns full found i g.Full)
  (fun N ns full found hl=>by rw[aK.l0,if_neg qom])
  (fun N i ns full found n e hi hl hn hx hr hS hf hF=>Hv k hk g hmo t sy ev hsy g.Full N i ns full found n e es hi qom hl hn hx hr hS hf hF hs ht) g.Nodes.length k 0 qom qom
 simp only[fx,vm,List.foldl_nil,qzB,qzO,dy,List.any_nil,Bool.or_false] at this
 unfold aK.f
 rw[show((0:Nat):Int)=0 from rfl] at this
 rw[this]
 simp only[qzb]
 have hl:=gx g.Mode g.Seen t ev g.Nodes
 have q:=congrArg (Option.bind · fun x=>some ((⟨g.Mode,(ax g.Mode g.Seen t ev g.Nodes).1,g.Seen,g.Now,g.Full||dy (ax g.Mode g.Seen t ev g.Nodes).1⟩:GGraph),x)) (vy hl.2 h1 qom)
 simp only[uY,qzb] at q
 exact q
theorem AI (k:Nat) (hk:1000000000000≤k) (e:GEv) (mode seen now:Int) (hmo:0≤mode∧mode≤4) (es:List GEx) (hs:0≤seen∧seen≤23) (he:e.At≤1000) (f0:Bool):∀(f N:Nat) (ns:List GNode) (out:List GOcc) (T:Int),gj T es ns→0≤T→T<e.At→(e.At-T).toNat≤f→f+1<N→out.length+40 * f≤1000000→
  dN.l0 k e N mode ns seen now false out f0=some (mode,(cK mode seen e.At f ns out).1,seen,now,(cK mode seen e.At f ns out).2.1,(cK mode seen e.At f ns out).2.2,f0)
 |0,_,_,_,_,_,_,_,_,_,_=>by omega
 |f+1,N,ns,out,T,h,hT0,hT,hf,hN,hol=>by
  obtain⟨N,rfl⟩:=qsc N
  have nl:=oB ns e.At
  rw[dN.l0,if_neg (by decide),GL k hk ⟨mode,ns,seen,now,false⟩ e.At (show ns.length≤1000 by have:=h.2.1.2;omega) h.due]
  simp only[qzb]
  unfold cK
  by_cases hlt:bX ns e.At<e.At
  ·rw[if_pos hlt,if_pos hlt]
   have hT':T<bX ns e.At:=by
    rcases ov ns e.At with q|⟨n,q1,o,q2,q3⟩
    ·omega
    ·rw[q3];exact((h.2.2 n q1).2.2.2.1 o q2).1
   have hR:=h.ready (t:=bX ns e.At) qom
   rw[B6 k hk ⟨mode,ns,seen,now,false⟩ hmo (bX ns e.At) (-1) none (fun s hs0=>⟨fun q=>by omega,fun q=>by simp at q⟩) es hR h.2.1.1 hs qom]
   simp only[qzb,oc]
   obtain⟨x,hx,lf⟩:=lw (mode:=mode) (ev:=none) hR h.2.1.1 hs
   have ls:=lf.small hx.2
   rw[ac qom]
   by_cases hfu:dy (ax mode seen (bX ns e.At) none ns).1=true
   ·rw[if_pos hfu,hfu]
    obtain⟨N,rfl⟩:=qsc N
    rw[dN.l0,if_pos rfl]
   ·have hfu':dy (ax mode seen (bX ns e.At) none ns).1=false:=by simpa using hfu
    rw[if_neg hfu,hfu']
    have ll:=qO (mode:=mode) (ev:=none) hR h.2.1.1 hs hfu'
    exact AI k hk e mode seen now hmo es hs he f0 f N _ _ (bX ns e.At) (mV h (Int.le_of_lt hT') nl.2 hs hfu') qom hlt qom qom (by rw[qzg];omega)
  ·rw[if_neg hlt,if_neg hlt]
theorem Gh (k:Nat) (hk:1000000000000≤k) (e:GEv) (hsym:0≤e.Sym) (g:GGraph) (hmo:0≤g.Mode∧g.Mode≤4) (es:List GEx) (T:Int) (h:gj T es g.Nodes) (hT:0≤T∧T<e.At∧e.At≤1000) (hs:0≤g.Seen∧g.Seen≤23) (hf:g.Full=false) :
  dN.f k g e=some (match iv g.Mode g.Seen g.Nodes e with|none=>(⟨g.Mode,[],g.Seen+1,e.At,true⟩,[])|some r=>(⟨g.Mode,r.1,g.Seen+1,e.At,false⟩,r.2)):=by
 unfold dN.f
 rw[hf,AI k hk e g.Mode g.Seen g.Now hmo es hs hT.2.2 false 1001 k g.Nodes [] T h hT.1 hT.2.1 qom qom (by simp)]
 simp only[qzb]
 unfold iv
 rw[wr (g.Seen+1) qom]
 by_cases h1:(cK g.Mode g.Seen e.At 1001 g.Nodes []).2.1=true
 ·rw[if_pos h1,if_pos h1]
 ·rw[if_neg h1,if_neg h1]
  obtain⟨T',a,b,c,d,f,gg⟩:=oQ (mode:=g.Mode) (before:=e.At) hs 1001 g.Nodes [] T h hT.2.1 qom (fun o hh=>by simp at hh) (by simp) (by simpa using h1)
  have hR:=c.ready (t:=e.At) qom
  rw[B6 k hk ⟨g.Mode,(cK g.Mode g.Seen e.At 1001 g.Nodes []).1,g.Seen,g.Now,false⟩ hmo e.At e.Sym (some e.Sym) (fun s _=>⟨fun q=>by rw[q],fun q=>(pQ q).symm⟩) es hR c.2.1.1 hs qom]
  simp only[qzb,oc]
  obtain⟨x,hx,lf⟩:=lw (mode:=g.Mode) (ev:=some e.Sym) hR c.2.1.1 hs
  have ls:=lf.small hx.2
  rw[ac qom]
  by_cases h2:dy (ax g.Mode g.Seen e.At (some e.Sym) (cK g.Mode g.Seen e.At 1001 g.Nodes []).1).1=true
  ·rw[if_pos h2,if_pos h2,wr (g.Seen+1) qom]
  ·rw[if_neg h2,if_neg h2,wr (g.Seen+1) qom]

theorem Bl (k:Nat) (hk:2000000000000≤k) (l:List GRule) (hl:l.length≤1000000) (h:∀r∈l,exN r.Ex≤1000000):dw.f k l=some l:=by
 have:=ic l id (dw.l0 k l) (fun N acc=>by rw[dw.l0,if_neg qom])
  (fun N acc i hi ha=>by
   have hm:=h _ (qze hi)
   rw[dw.l0,if_pos qom,ac qom,qzd,qzc hi]
   simp only[qzb]
   rw[GZ _ hm k qom]
   simp only[qzb]
   rw[ac qom,wrS i qom]
   generalize l[i]=z
   obtain⟨a,b,c,⟨d1,d2,d3,d4⟩,e,f,g,u,v⟩:=z
   rfl) k qom
 unfold dw.f
 rw[this,qV];rfl
theorem Bb (k:Nat) (hk:2000000000000≤k) (l:List GFire) (hl:l.length≤1000000) (h:∀f∈l,Few f.Occ):cW.f k l=some l:=by
 have:=ic l id (cW.l0 k l) (fun N acc=>by rw[cW.l0,if_neg qom])
  (fun N acc i hi ha=>by
   rw[cW.l0,if_pos qom,ac qom,qzd,qzc hi]
   simp only[qzb]
   rw[ac qom,oi _ (h _ (qze hi))]
   simp only[qzb]
   rw[ac qom,wrS i qom];rfl) k qom
 unfold cW.f
 rw[this,qV];rfl
theorem GE (k:Nat) (hk:1000000000000≤k) (g:GGraph) (hl:g.Nodes.length≤1000) (h:∀n∈g.Nodes,DH n):dP.f k g=some g:=by
 have:=ic g.Nodes id (dP.l0 k g) (fun N acc=>by rw[dP.l0,if_neg qom])
  (fun N acc i hi ha=>by
   have hn:=h _ (qze hi)
   have h1:=hn.1
   have c:∀l∈[(g.Nodes[i]).Pair.Left,(g.Nodes[i]).Pair.Right,(g.Nodes[i]).Span.Left,(g.Nodes[i]).Span.Mid,(g.Nodes[i]).Due],ck.f k l=some l:=fun l hl=>rE k hk l (by have:=(hn.2 l hl).1;omega) (hn.2 l hl).2
   rw[dP.l0,if_pos qom,ac qom,qzd,qzc hi]
   simp only[qzb]
   rw[ac qom]
   unfold mH.f mJ.f
   rw[c _ (by simp),c _ (by simp),c _ (by simp),c _ (by simp),c _ (by simp)]
   simp only[qzb]
   rw[ac qom,wrS i qom];rfl) k qom
 unfold dP.f
 rw[this,qV];rfl
theorem vu (k:Nat) (hk:2000000000000≤k) {e:GEng} (h:fR e):bL.f k e=some e:=by
 have hev:=dV h.evs
 have hfew:=gy h.rules
 have hlen:=h.len
 have hf:=h.fired.1
 have hk4:=h.keys.1
 have:=ic e.Graphs id (bL.l0 k e) (fun N acc=>by rw[bL.l0,if_neg qom])
  (fun N acc i hi ha=>by
   have g:=(h.graphs _ (qze hi)).slim
   rw[bL.l0,if_pos qom,ac qom,qzd,qzc hi]
   simp only[qzb]
   rw[GE k qom _ qom g.2]
   simp only[qzb]
   rw[ac qom,wrS i qom];rfl) k qom
 unfold bL.f
 rw[Bl k hk e.Rules qom (fun r hr=>(dp h.rules hr).small.2)]
 simp only[qzb]
 rw[ac qom,ac qom,Bb k hk e.Fired qom (fun f hf=>by
  have:=co ((eW f.Occ).1 (h.fired.2 f hf).2.1).2.2.2.2
  show f.Occ.Ids.length≤1000;omega)]
 simp only[qzb]
 rw[this,qV];rfl
theorem HS (k:Nat) (hk:2000000000000≤k) (l:List GRule) (hl:l.length≤1000000) (hs:∀r∈l,mT r):df.f k l=some (if dQ l=true then qD l else⟨[],[],[],[],[]⟩):=by
 unfold df.f
 rw[lZ k qom l hl hs]
 simp only[qzb]
 by_cases h:dQ l=true
 ·rw[if_pos h,if_pos h,Bl k hk l hl (fun r hr=>(hs r hr).2)]
  simp only[qzb]
  rw[ac qom,ac qom,ac qom]
  have:=ic l BZ (df.l0 k l) (fun N acc=>by rw[df.l0,if_neg qom])
   (fun N acc i hi ha=>by
    have hr:=dp h (qze hi)
    rw[df.l0,if_pos qom,ac qom,qzd,qzc hi]
    simp only[qzb]
    rw[ac qom,xT k hk _ _ (hs _ (qze hi)).2,if_pos ⟨hr.ex,hr.mode⟩]
    simp only[qzb]
    rw[ac qom,wrS i qom];rfl) k qom
  rw[this]
  rfl
 ·rw[if_neg h,if_neg h]
/-- those of one priority, then those below -/
def lay (p:Int→Int) (n:Nat):Nat→List Int
 |0=>[]
 |q+1=>((List.range n).map fun i:Nat=>(i:Int)).filter (fun x=>decide (p x=(q:Int)))++lay p n q
def ahead (p:Int→Int) (x y:Int):Prop:=p y<p x∨(p x=p y∧x<y)
theorem yD {p:Int→Int} {n:Nat} {x:Int}:∀{q:Nat},x∈lay p n q↔(∃i:Nat,i<n∧x=i)∧0≤p x∧p x<q
 |0=>by simp only[lay,sP,false_iff];intro h;omega
 |q+1=>by
  rw[lay,List.mem_append,yD (q:=q),List.mem_filter,List.mem_map]
  constructor
  ·rintro(⟨⟨i,h,rfl⟩,h2⟩|⟨h,h2⟩)
   ·have:=of_decide_eq_true h2;exact⟨⟨i,List.mem_range.1 h,rfl⟩,by omega⟩
   ·exact⟨h,by omega⟩
  ·rintro⟨⟨i,h,rfl⟩,h2⟩
   by_cases h3:p i=q
   ·exact .inl ⟨⟨i,List.mem_range.2 h,rfl⟩,decide_eq_true h3⟩
   ·exact .inr ⟨⟨i,h,rfl⟩,by omega⟩
theorem GS (n:Nat):((List.range n).map fun i:Nat=>(i:Int)).Pairwise (·<·):=List.pairwise_map.2 (List.pairwise_lt_range.imp fun h=>by omega)
theorem vD {p:Int→Int} {n:Nat}:∀q:Nat,(lay p n q).Pairwise (ahead p)
 |0=>List.Pairwise.nil
 |q+1=>by
  rw[lay,List.pairwise_append]
  refine⟨?_,vD q,fun x hx y hy=>?_⟩
  ·refine((GS n).filter _).imp_of_mem fun{a b} ha hb h=>.inr ⟨?_,h⟩
   rw[List.mem_filter] at ha hb
   have:=of_decide_eq_true ha.2
   have:=of_decide_eq_true hb.2
   omega
  ·rw[List.mem_filter] at hx
   have:=of_decide_eq_true hx.2
   have:=(yD.1 hy).2
   exact .inl qom
theorem BY {p:Int→Int} {x:Int}:∀{l:List Int},l.Pairwise (fun a b=>ahead p b a)→(∀y∈l,y<x)→(inR p l x).Pairwise (fun a b=>ahead p b a)
 |[],_,_=>List.pairwise_singleton _ _
 |y::l,h,hl=>by
  have hy:=hl y (by simp)
  rw[List.pairwise_cons] at h
  unfold inR
  split
  ·rename_i hp
   rw[List.pairwise_cons]
   refine⟨fun z hz=>?_,BY h.2 fun z hz=>hl z (by simp[hz])⟩
   rcases qzo.1 ((uM p x l).mem_iff.1 hz) with rfl|q
   ·exact .inl hp
   ·exact h.1 z q
  ·rename_i hp
   have hxy:ahead p y x:=by
    by_cases e:p x=p y
    ·exact .inr ⟨e.symm,hy⟩
    ·exact .inl qom
   rw[List.pairwise_cons]
   refine⟨fun z hz=>?_,List.pairwise_cons.2 h⟩
   rcases qzo.1 hz with rfl|q
   ·exact hxy
   ·have h1:=h.1 z q
    unfold ahead at h1 hxy⊢
    omega
theorem zi (p:Int→Int):∀n:Nat,(li p n).Pairwise (fun a b=>ahead p b a)
 |0=>List.Pairwise.nil
 |n+1=>by
  rw[rX]
  exact BY (zi p n) fun y hy=>by obtain⟨i,hi,rfl⟩:=AZ.1 hy;omega
theorem EK {p:Int→Int} {n q:Nat}:(lay p n q).Nodup:=(vD q).imp fun h e=>by subst e;unfold ahead at h;omega
theorem E1 (rs:List GRule) (hp:∀r∈rs,0≤r.Pri∧r.Pri≤9):lay (jG rs) rs.length 10=eF rs:=by
 refine List.Perm.eq_of_pairwise (le:=ahead (jG rs)) (fun a b _ _ h1 h2=>by unfold ahead at h1 h2;omega) (vD 10) (List.pairwise_reverse.2 (zi _ _)) ?_
 refine(List.perm_ext_iff_of_nodup EK (mF rs)).2 fun x=>?_
 rw[yD,jU]
 refine⟨fun h=>h.1,fun h=>⟨h,?_⟩⟩
 obtain⟨i,hi,rfl⟩:=h
 have:=hp _ (qze hi)
 unfold jG
 rw[qzd,qzc hi]
 show 0≤(rs[i]).Pri∧(rs[i]).Pri<((10:Nat):Int)
 omega
theorem BA (k:Nat) (hk:1000000000000≤k) (rs:List GRule) (h:dQ rs=true):aZ.f k rs=some (eF rs):=by
 have hl:=gy h
 have L3:∀(q:Nat) (out:List Int),out.length≤100→∀(d i N:Nat),i+d=rs.length→d<N→aZ.l3 k rs (q:Int) N (out++((List.range i).map fun j:Nat=>(j:Int)).filter (fun x=>decide (jG rs x=(q:Int)))) (i:Int)=some (out++((List.range rs.length).map fun j:Nat=>(j:Int)).filter (fun x=>decide (jG rs x=(q:Int)))):=by
  intro q out ho d
  induction d with
  |zero=>
   intro i N hi hN
   obtain⟨N,rfl⟩:=qsc N
   rw[aZ.l3,if_neg qom,show i=rs.length by omega]
  |succ d ih=>
   intro i N hi hN
   obtain⟨N,rfl⟩:=qsc N
   have hii:i<rs.length:=by omega
   have hlen:(out++((List.range i).map fun j:Nat=>(j:Int)).filter (fun x=>decide (jG rs x=(q:Int)))).length≤200:=by
    have:=vI (fun x=>decide (jG rs x=(q:Int))) ((List.range i).map fun j:Nat=>(j:Int))
    rw[List.length_map,List.length_range] at this
    rw[qzg];omega
   have hpr:jG rs (i:Int)=(rs[i]).Pri:=by unfold jG;rw[qzd,qzc hii];rfl
   have nx:=ih (i+1) N qom qom
   rw[List.range_succ,List.map_append,List.filter_append,qzG,pC] at nx
   rw[aZ.l3,if_pos qom,ac qom,qzd,qzc hii]
   simp only[qzb]
   rw[wrS i qom]
   by_cases e:(rs[i]).Pri=(q:Int)
   ·rw[if_pos e,ac qom]
    rw[List.filter_cons_of_pos (by rw[hpr];exact decide_eq_true e),List.filter_nil,←qzl] at nx
    exact nx
   ·rw[if_neg e]
    rw[List.filter_cons_of_neg (by rw[hpr];simpa using e),List.filter_nil,qzT] at nx
    exact nx
 have L2:∀(q N:Nat) (out:List Int),q≤10→q<N→out.length+4 * q≤40→aZ.l2 k rs N out ((q:Int)-1)=some (out++lay (jG rs) rs.length q):=by
  intro q
  induction q with
  |zero=>
   intro N out _ hN _
   obtain⟨N,rfl⟩:=qsc N
   rw[aZ.l2,if_pos qom,lay,qzT]
  |succ q ih=>
   intro N out hq hN ho
   obtain⟨N,rfl⟩:=qsc N
   have:=L3 q out qom rs.length 0 k qom qom
   rw[List.range_zero,pC,List.filter_nil,qzT,show((0:Nat):Int)=0 from rfl] at this
   rw[aZ.l2,if_neg qom,show((q+1:Nat):Int)-1=(q:Int) by omega,this]
   simp only[qzb]
   rw[wr _ qom,ih N _ qom qom (by
    have:=vI (fun x=>decide (jG rs x=(q:Int))) ((List.range rs.length).map fun j:Nat=>(j:Int))
    rw[List.length_map,List.length_range] at this
    rw[qzg];omega),lay,qzl]
 unfold aZ.f
 rw[lZ k hk rs qom (fun r hr=>(dp h hr).small),h]
 simp only[qzb,if_true]
 have:=L2 10 k [] qom qom (by simp)
 rw[show((10:Nat):Int)-1=9 from rfl] at this
 rw[this,qzO,E1 rs fun r hr=>(dp h hr).pri]
 rfl
theorem CU {c:Nat} {e:GEng} (h:Own c e) {o:GOcc} (ho:dx o=true) (hmd:eH e.Events.length o):∃x,e.Events[(fm o).toNat]? =some x∧kq.f e o=some x.Val:=by
 have hids:=((eW o).1 ho).2.2.2.2
 have hil:=co hids
 have h1:=List.length_pos_iff.2 hmd.2.2.1
 obtain⟨m,hm⟩:∃m,o.Ids.length=m+1:=⟨o.Ids.length-1,by omega⟩
 have hl:fm o=o.Ids[m]:=by
  unfold fm
  rw[qzS,show o.Ids.length-1=m by omega,qzc qom];rfl
 have lm:fm o∈o.Ids:=by rw[hl];exact qze _
 have l0:=(hids.2 _ lm).1
 have l1:=hmd.2.2.2 _ lm
 have hlt:(fm o).toNat<e.Events.length:=by omega
 refine⟨_,qzc hlt,?_⟩
 unfold kq.f
 rw[hm,wrP m qom,ac qom,qzd,qzc qom]
 simp only[qzb]
 rw[←hl,ac qom,qzc hlt]
 rfl
def pY (r:Int×GEng×Graiser):Gl9Call:=⟨r.2.1,r.2.2.queue,r.2.2.raised,r.1⟩
theorem HQ (n:Int):hU.f n=some (decide (0≤n∧n≤1000)):=by
 unfold hU.f
 by_cases h:n<0
 ·rw[if_pos h,decide_eq_false qom]
 ·rw[if_neg h]
  by_cases h2:1000<n
  ·rw[decide_eq_true h2,decide_eq_false qom];rfl
  ·rw[decide_eq_false h2,decide_eq_true qom];rfl
theorem D5 {c:Nat} {e:GEng} {q:Graiser} (h:Own c e) {i:Nat} (hi:i<e.Rules.length) {o:GOcc} (ho:dx o=true) (hmd:eH e.Events.length o) {z:Int} (hz:z≠0) :
  fX.f ⟨e,q.queue,q.raised,z⟩ (i:Int) o=some ⟨e,q.queue,q.raised,z⟩:=by
 obtain⟨x,hx,hv⟩:=CU h ho hmd
 unfold fX.f
 rw[ac qom,qzd]
 dsimp only
 rw[qzc hi]
 simp only[qzb]
 rw[hv]
 simp only[qzb]
 split
 ·rfl
 split
 ·rfl
 first|rw[if_neg hz]|rfl
theorem GP {c:Nat} {m:Int} {e:GEng} {q:Graiser} (h:Own c e) (hc:c≤900000) (hq:QI m q) (hm:m≤100) {i:Nat} (hi:i<e.Rules.length) {o:GOcc} (ho:dx o=true) (hmd:eH e.Events.length o) :
  fX.f ⟨e,q.queue,q.raised,0⟩ (i:Int) o=some (pY (eb e i o q)):=by
 obtain⟨x,hx,hv⟩:=CU h ho hmd
 have hids:=((eW o).1 ho).2.2.2.2
 have hil:=co hids
 have hr:=dp h.rules (qze hi)
 have hkl:=h.keys.1
 have hkey:=hr.key
 have hadd:=hr.add
 have hfl:=h.fired.1
 have hkn:(e.Rules[i]).Key.toNat<e.Keys.length:=by omega
 have hk0:=h.keys.2 _ (qze hkn)
 have hg:e.Keys.getD (e.Rules[i]).Key.toNat 0=e.Keys[(e.Rules[i]).Key.toNat]:=by rw[qzt,qzc hkn];rfl
 have hqr:=hq.raised
 have hqs:=hq.sum
 unfold fX.f eb
 dsimp only
 rw[ac qom,qzd,qzc hi,hx]
 simp only[qzb]
 rw[hv]
 simp only[qzb]
 by_cases h1:x.Val<(e.Rules[i]).Low
 ·rw[if_pos h1,if_neg qom];rfl
 rw[if_neg h1]
 by_cases h2:(e.Rules[i]).High<x.Val
 ·rw[if_pos h2,if_neg qom];rfl
 rw[if_neg h2,if_pos True.intro,if_pos (show(e.Rules[i]).Low≤x.Val∧x.Val≤(e.Rules[i]).High from⟨by omega,by omega⟩),ac qom,ac qom,qzc hkn]
 simp only[qzb]
 rw[wr _ qom,HQ,hg]
 simp only[qzb]
 by_cases h3:0≤e.Keys[(e.Rules[i]).Key.toNat]+(e.Rules[i]).Add∧e.Keys[(e.Rules[i]).Key.toNat]+(e.Rules[i]).Add≤1000
 rotate_left
 ·rw[if_neg (by simpa using h3),if_neg h3];rfl
 rw[if_pos (by simpa using h3),if_pos h3,ac qom,ac qom,oi o (show o.Ids.length≤1000 by omega)]
 simp only[qzb]
 rw[ac qom]
 by_cases h4:(e.Rules[i]).Raise<0
 ·rw[if_pos h4,if_pos h4];rfl
 rw[if_neg h4,if_neg h4]
 by_cases h5:q.raised=6
 ·rw[if_neg qom,if_pos h5];rfl
 rw[if_pos qom,if_neg h5,ac qom,wr _ qom]
 rfl
abbrev Flat8:=(List GRule)×(List GGraph)×(List GEv)×(List Int)×(List GFire)×(List GEv)×Int×Int
def Al (r:Int×GEng×Graiser):Flat8:=(r.2.1.Rules,r.2.1.Graphs,r.2.1.Events,r.2.1.Keys,r.2.1.Fired,r.2.2.queue,r.2.2.raised,r.1)
theorem CJ (k:Nat) (i:Nat) (y:GGraph×(List GOcc)) (hy:y.2.length≤1000) {z:Int} (hz:z≠0) (e:GEng) (q:Graiser) (c:Nat) (ho:Own c e) (hi:i<e.Rules.length) (hF:∀o∈y.2,dx o=true∧eH e.Events.length o) :
  ∀(d j N:Nat),j+d=y.2.length→d<N→aW.l3 k (i:Int) y N e.Rules e.Graphs e.Events e.Keys e.Fired q.queue q.raised z (j:Int)=some (Al (z,e,q)):=by
 intro d
 induction d with
 |zero=>
  intro j N hj hN
  obtain⟨N,rfl⟩:=qsc N
  rw[aW.l3,if_neg qom];rfl
 |succ d ih=>
  intro j N hj hN
  obtain⟨N,rfl⟩:=qsc N
  have hlt:j<y.2.length:=by omega
  have hf:=hF _ (qze hlt)
  rw[aW.l3,if_pos qom,ac qom,ac qom,qzd,qzc hlt]
  simp only[qzb]
  rw[show(⟨e.Rules,e.Graphs,e.Events,e.Keys,e.Fired⟩:GEng)=e from rfl,D5 ho hi hf.1 hf.2 hz]
  simp only[qzb]
  rw[wrS j qom]
  exact ih (j+1) N qom qom
theorem FS (k:Nat) (i:Nat) (y:GGraph×(List GOcc)) (m:Int) (hm:m≤100) (hy:y.2.length≤1000):∀(d j N:Nat) (e:GEng) (q:Graiser) (c:Nat),j+d=y.2.length→d<N→Own c e→c+d≤900000→QI m q→i<e.Rules.length→(∀o∈y.2,dx o=true∧eH e.Events.length o)→
  aW.l3 k (i:Int) y N e.Rules e.Graphs e.Events e.Keys e.Fired q.queue q.raised 0 (j:Int)=some (Al (fN i (y.2.drop j) e q)):=by
 intro d
 induction d with
 |zero=>
  intro j N e q c hj hN ho hc hq hi hF
  obtain⟨N,rfl⟩:=qsc N
  rw[aW.l3,if_neg qom,qzn qom];rfl
 |succ d ih=>
  intro j N e q c hj hN ho hc hq hi hF
  obtain⟨N,rfl⟩:=qsc N
  have hlt:j<y.2.length:=by omega
  have hf:=hF _ (qze hlt)
  obtain⟨f1,f2,f3,f4⟩:=EH ho qom hq hm hi hf.1 hf.2
  have hF':∀o∈y.2,dx o=true∧eH (eb e i y.2[j] q).2.1.Events.length o:=fun o hh=>by rw[f3.evs];exact hF o hh
  have hi':i<(eb e i y.2[j] q).2.1.Rules.length:=by rw[f3.rules];exact hi
  rw[aW.l3,if_pos qom,ac qom,ac qom,qzd,qzc hlt]
  simp only[qzb]
  rw[show(⟨e.Rules,e.Graphs,e.Events,e.Keys,e.Fired⟩:GEng)=e from rfl,GP ho qom hq hm hi hf.1 hf.2]
  simp only[qzb,pY]
  rw[wrS j qom,qzj hlt]
  unfold fN
  by_cases h0:(eb e i y.2[j] q).1=0
  ·rw[if_pos h0,h0]
   exact ih (j+1) N _ _ (c+1) qom qom f2 qom f4 hi' hF'
  ·rw[if_neg h0]
   exact CJ k i y hy h0 _ _ _ f2 hi' hF' d (j+1) N qom qom
def exR (r:Int×GEng×Graiser) (f:Bool):Except Gl9Call Flat8:=if f=true then .error (pY r) else .ok (Al r)
theorem G0 (k:Nat) (hk:1000000000000≤k) {e0:GEng} (h0:fR e0) {x:GEv} (hx:aL e0.Events<x.At∧x.At≤1000) (hsy:0≤x.Sym) (h23:e0.Events.length≤23) (m:Int) (hm:m≤100) (os:List Int) (hos:∀i∈os,∃j:Nat,j<e0.Rules.length∧i=j) (hnd:os.Nodup) (hol:os.length≤4) :
  ∀(d j N:Nat) (e:GEng) (q:Graiser) (c:Nat),j+d=os.length→d<N→Mid e0 x (os.drop j) e→Own c e→c+40 * d≤800000→QI m q→
  ∃f,aW.l2 k x os N e.Rules e.Graphs e.Events e.Keys e.Fired q.queue q.raised 0 (j:Int)=some (exR (fP x (os.drop j) e q) f):=by
 intro d
 induction d with
 |zero=>
  intro j N e q c hj hN hM ho hc hq
  obtain⟨N,rfl⟩:=qsc N
  rw[qzn qom]
  rw[aW.l2,if_neg qom]
  exact⟨false,rfl⟩
 |succ d ih=>
  intro j N e q c hj hN hM ho hc hq
  obtain⟨N,rfl⟩:=qsc N
  have hlt:j<os.length:=by omega
  obtain⟨i,hi,he⟩:=hos _ (qze hlt)
  have hdrop:os.drop j=(i:Int)::os.drop (j+1):=by rw[qzj hlt,he]
  have hnot:(i:Int)∉os.drop (j+1):=by
   have:(os.drop j).Nodup:=hnd.sublist (List.drop_sublist j os)
   rw[hdrop] at this
   exact(List.nodup_cons.1 this).1
  rw[hdrop] at hM⊢
  have hgl:=hM.len
  have hig:i<e.Graphs.length:=by omega
  have hig0:i<e0.Graphs.length:=by rw[h0.len];exact hi
  have hge:e.Graphs[i]? =some e0.Graphs[i]:=by rw[hM.old i (by simp),qzc hig0]
  have hG:=h0.graphs _ (qze hig0)
  obtain⟨s1,s2⟩:=wL k hk hG h23 hx
  obtain⟨es,hi0⟩:=hG.inv
  have hlate:=hG.late
  have hse:=hG.seen'
  have s3:=Gh k hk x hsy e0.Graphs[i] hG.mode es _ hi0 ⟨hlate.1,hx.1,hx.2⟩ qom hG.full
  rw[aW.l2,if_pos qom,if_pos rfl,ac qom,ac qom,qzd,qzc hlt]
  simp only[qzb]
  rw[he,ac qom,ac qom,qzd,hge]
  simp only[qzb]
  rw[s3]
  unfold fP kU
  rw[qzd,hge]
  simp only[]
  cases hst:iv e0.Graphs[i].Mode e0.Graphs[i].Seen e0.Graphs[i].Nodes x with
  |none=>
   simp only[qzb,if_true]
   rw[if_neg (show ¬(2:Int)=0 by decide),ac qom,ac qom]
   exact⟨true,rfl⟩
  |some r=>
   obtain⟨t1,t2,t3,t4,t5,t6⟩:=s2 r hst
   simp only[qzb,qzw,if_false]
   rw[ac qom,ac qom]
   have hev:e.Events.length=e0.Events.length+1:=by rw[hM.evs,qzg,qzq]
   have hown:Own c ⟨e.Rules,e.Graphs.set i ⟨e0.Graphs[i].Mode,r.1,e0.Graphs[i].Seen+1,x.At,false⟩,e.Events,e.Keys,e.Fired⟩:=⟨ho.rules,ho.evs,ho.keys,ho.fired⟩
   have hF:∀o∈r.2,dx o=true∧eH e.Events.length o:=fun o hh=>by
    have:=t3 o hh
    refine⟨this.1,?_⟩
    rw[hev];exact this.2
   obtain⟨_,f2,f3,f4⟩:=Dh k i (r.2,⟨e0.Graphs[i].Mode,r.1,e0.Graphs[i].Seen+1,x.At,false⟩) m hm (by dsimp only;omega) r.2.length 0 k ⟨e.Rules,e.Graphs.set i ⟨e0.Graphs[i].Mode,r.1,e0.Graphs[i].Seen+1,x.At,false⟩,e.Events,e.Keys,e.Fired⟩ q c (by simp) qom hown qom hq (by rw[hM.rules];exact hi) hF
   have f1:=FS k i (⟨e0.Graphs[i].Mode,r.1,e0.Graphs[i].Seen+1,x.At,false⟩,r.2) m hm (by dsimp only;omega) r.2.length 0 k ⟨e.Rules,e.Graphs.set i ⟨e0.Graphs[i].Mode,r.1,e0.Graphs[i].Seen+1,x.At,false⟩,e.Events,e.Keys,e.Fired⟩ q c (by simp) qom hown qom hq (by rw[hM.rules];exact hi) hF
   simp only[qzB] at f1 f2 f3 f4
   rw[show((0:Nat):Int)=0 from rfl] at f1
   rw[f1]
   simp only[qzb,Al]
   rw[wrS j qom]
   by_cases hz:(fN i r.2 ⟨e.Rules,e.Graphs.set i ⟨e0.Graphs[i].Mode,r.1,e0.Graphs[i].Seen+1,x.At,false⟩,e.Events,e.Keys,e.Fired⟩ q).1=0
   ·rw[if_pos hz,hz]
    have hgr:=f3.graphs
    have hmid:Mid e0 x (os.drop (j+1)) (fN i r.2 ⟨e.Rules,e.Graphs.set i ⟨e0.Graphs[i].Mode,r.1,e0.Graphs[i].Seen+1,x.At,false⟩,e.Events,e.Keys,e.Fired⟩ q).2.1:=by
     refine⟨f3.rules.trans hM.rules,f3.evs.trans hM.evs,by rw[hgr,List.length_set];exact hgl,fun a ha=>?_,fun a ha g hg=>?_⟩
     ·rw[hgr,xA (by intro q;subst q;exact hnot ha)]
      exact hM.old a (by simp[ha])
     ·rw[hgr] at hg
      by_cases hai:a=i
      ·subst hai
       rw[rY hig] at hg
       cases hg
       exact t1
      ·rw[xA qom] at hg
       exact hM.new a (by simp only[qzo,not_or];exact⟨by omega,ha⟩) g hg
    exact ih (j+1) N _ _ (c+r.2.length) qom qom hmid f2 qom f4
   ·rw[if_neg hz]
    obtain⟨N,rfl⟩:=qsc N
    refine⟨false,?_⟩
    rw[aW.l2]
    by_cases hj':(((j+1:Nat):Int)<((os.length:Nat):Int))
    ·rw[if_pos hj',if_neg hz];rfl
    ·rw[if_neg hj'];rfl
theorem Bd (k:Nat) (hk:1000000000000≤k) {e:GEng} (h:fR e) {x:GEv} (hx:aL e.Events<x.At∧x.At≤1000000) (hs:0≤x.Sym∧x.Sym<5∧0≤x.Val∧x.Val≤100) (m:Int) (hm:m≤100) {q:Graiser} (hq:QI m q) :
  aW.f k ⟨e,q.queue,q.raised,0⟩ x=some (pY (bg e x q)):=by
 have hev:=dV h.evs
 have hfew:=gy h.rules
 have hlast:=(ly h.evs).1
 unfold aW.f bg
 dsimp only
 by_cases h1:e.Events.length=24
 ·rw[if_neg qom,if_pos (.inl h1)];rfl
 rw[if_pos qom]
 by_cases h2:1000<x.At
 ·rw[if_pos h2,if_pos (.inr h2)];rfl
 rw[if_neg h2,if_neg qom,ac qom,BA k hk e.Rules h.rules]
 simp only[qzb]
 have hev':fH (e.Events++[x])=true:=rv h.evs qom (by
  unfold jY
  simp only[qzf,decide_eq_true_eq];omega) hx.1
 have hmid:Mid e x (eF e.Rules) ⟨e.Rules,e.Graphs,e.Events++[x],e.Keys,e.Fired⟩:=by
  refine⟨rfl,rfl,h.len,fun i hi=>rfl,fun i hi g hg=>?_⟩
  exfalso
  exact hi (jU.2 ⟨i,by have:=(List.getElem?_eq_some_iff.1 hg).1;rw[←h.len];exact this,rfl⟩)
 have hown:Own (500000+2000 * e.Events.length) ⟨e.Rules,e.Graphs,e.Events++[x],e.Keys,e.Fired⟩:=by
  refine⟨h.rules,hev',h.keys,h.fired.1,fun f hf=>?_⟩
  obtain⟨a,b,c⟩:=h.fired.2 f hf
  refine⟨a,b,c.mono ?_⟩
  dsimp only
  rw[qzg,qzq];omega
 obtain⟨f,r1⟩:=G0 k hk h (x:=x) ⟨hx.1,by omega⟩ hs.1 qom m hm (eF e.Rules) (fun i hi=>jU.1 hi) (mF _) (by rw[fw];exact hfew) (eF e.Rules).length 0 k ⟨e.Rules,e.Graphs,e.Events++[x],e.Keys,e.Fired⟩ q _ qom (by rw[fw];omega) hmid hown (by rw[fw];omega) hq
 simp only[qzB] at r1
 rw[show((0:Nat):Int)=0 from rfl] at r1
 rw[r1]
 unfold exR
 cases f <;> rfl
theorem jQ {β:Type} (m:Nat) (b:β) (L:Nat→Int→Option (Except β Unit)) (h0:∀N,L (N+1) (m:Int)=some (.ok ()))
  (h1:∀N i,i<m→L (N+1) (i:Int)=L N ((i+1:Nat):Int)) (N:Nat) (hN:m<N):L N 0=some (.ok ()):=by
 have:=jx m (fun _=>true) b L h0 (fun N i hi=>by rw[h1 N i hi,if_pos rfl]) N hN
 rw[this,if_pos (fun _ _=>rfl)]
theorem lR (k:Nat) (hk:1000000000000≤k) {l:List GOcc} (h:dA l=true):bZ.f k l=some true:=by
 rw[EL k hk l ⟨by have:=jg h;omega,qQ h⟩,h]
theorem FY (k:Nat) (hk:2000000000000≤k) {s T:Int} {es:List GEx} {ns:List GNode} (h:gj T es ns) (hT:0≤T∧T≤1000) {i:Nat} {n:GNode} (hn:ns[i]? =some n) (hm:ku (eH s) n):bQ.f k n (i:Int)=some true:=by
 have hmem:=qzI hn
 obtain⟨o1,o2,o3,o4,o5⟩:=mq h hmem hm hT
 obtain⟨e,he,hx,hR⟩:=h.1.2 i n hn
 have ha:=Am hx hR
 have hh:eI e=true:=by have:=hx.1;rw[iS] at this;simp only[qzf] at this;exact this.1
 unfold eI at hh
 simp only[qzf,decide_eq_true_eq,sW] at hh
 obtain⟨⟨⟨⟨hk1,hs1⟩,hs2⟩,hs3⟩,hN⟩:=hh
 obtain⟨⟨_,_⟩,hM,hD,hD2,_⟩:=h.2.2 n hmem
 have hkid:∀j,(hj:j<n.Kids.length)→0≤n.Kids[j]∧n.Kids[j]<(i:Int):=fun j hj=>by
  have hjl:j<e.Kids.length:=by rw[←hR.2.2.2.1];exact hj
  obtain⟨q,q1,q2,_⟩:=hR.2.2.2.2 j hjl
  rw[qzc hj] at q2
  simp only[qzh] at q2
  omega
 have k3:n.Kids.length≤3:=by
  have:fg e.Kind≤3:=by
   unfold fg;repeat' split
   all_goals omega
  rw[hR.2.2.2.1];omega
 have c0:=jQ n.Kids.length false (fun N s=>bQ.l0 k n (i:Int) N s) (fun N=>by rw[bQ.l0,if_neg qom]) (fun N j hj=>by
  have:=hkid j hj
  rw[bQ.l0,if_pos qom,ac qom,qzd,qzc hj]
  simp only[qzb]
  rw[if_neg qom,ac qom,if_pos qom,wrS j qom]) k qom
 have c1:=jQ n.Kids.length false (fun N s=>bQ.l1 k n (i:Int) N s) (fun N=>by rw[bQ.l1,if_neg qom]) (fun N j hj=>by
  have:=hkid j hj
  rw[bQ.l1,if_pos qom,ac qom,qzd,qzc hj]
  simp only[qzb]
  rw[if_neg qom,ac qom,if_pos qom,wrS j qom]) k qom
 have hpair:kM.f k n.Pair=some true:=by
  unfold kM.f
  rw[lR k qom o1]
  simp only[qzb,if_true]
  rw[lR k qom o2]
  rfl
 have hspan:kz.f k n.Span=some true:=by
  unfold kz.f
  rw[lR k qom o3]
  simp only[qzb,if_true]
  rw[lR k qom o4]
  rfl
 unfold bQ.f
 rw[lF]
 simp only[qzb]
 rw[if_pos (by rw[hR.2.2.2.1,hR.1];omega),if_neg (by rw[hR.2.1];omega),if_pos (by rw[hR.2.1];omega),if_neg qom,if_neg qom,hpair]
 simp only[qzb,if_true]
 rw[hspan]
 simp only[qzb,if_true]
 rw[lR k qom o5]
 simp only[qzb,if_true]
 by_cases h7:n.Kind=7
 ·rw[if_pos (by rw[←hR.1];exact h7)] at hN
  simp only[qzf,decide_eq_true_eq] at hN
  rw[if_pos h7,if_neg (by rw[hR.2.2.1];omega),if_neg (by rw[hR.2.2.1];omega),c0]
  rfl
 ·rw[if_neg (by rw[←hR.1];exact h7)] at hN
  simp only[decide_eq_true_eq] at hN
  rw[if_neg h7,if_pos (by rw[hR.2.2.1];exact hN),if_neg (by rw[hD h7];simp),c1]
  rfl
theorem Ep (k:Nat) (hk:2000000000000≤k) {now:Int} {seen:Nat} {g:GGraph} (h:iB now seen g):bJ.f k g=some true:=by
 obtain⟨es,hi⟩:=h.inv
 have hlen:=hi.2.1
 have h1:=h.now'
 have h2:=h.late
 have h3:=h.seen'
 have h4:=h.few
 have L:=jQ g.Nodes.length false (fun N s=>bJ.l2 k g N s) (fun N=>by rw[bJ.l2,if_neg qom]) (fun N i hlt=>by
  have hmem:=qze hlt
  obtain⟨_,_,hD2,_⟩:=(hi.2.2 _ hmem).2
  have ol:=jg (mq hi hmem (h.made _ hmem) h.late).2.2.2.2
  have D:=jQ (g.Nodes[i]).Due.length false (fun N s=>bJ.l3 k g (i:Int) N s) (fun N=>by
   rw[bJ.l3,ac qom,qzd,qzc hlt]
   simp only[qzb]
   rw[if_neg qom]) (fun N j hj=>by
   have:=(hD2 _ (qze hj)).1
   rw[bJ.l3,ac qom,qzd,qzc hlt]
   simp only[qzb]
   rw[if_pos qom,ac qom,ac qom,qzd,qzc hj]
   simp only[qzb]
   rw[if_pos qom,wrS j qom]) k qom
  rw[bJ.l2,if_pos qom,ac qom,qzd,qzc hlt]
  simp only[qzb]
  rw[FY k hk hi h.late (qzc hlt) (h.made _ hmem)]
  simp only[qzb,if_true]
  rw[D]
  simp only[qzb]
  rw[wrS i qom]) k qom
 unfold bJ.f
 rw[(yS h.mode).2]
 simp only[qzb,if_true]
 rw[if_neg qom,if_neg qom,if_neg qom,if_neg qom,if_neg qom,if_neg qom,L]
 rfl
theorem GI (k:Nat) (hk:2000000≤k) (s:Nat) (l:List GOcc) (h:l.length≤1000∧All (eH s) l∧Ids l):cc.f k l s=some true:=by
 have L:=jQ l.length false (fun N i=>cc.l0 k l s N i) (fun N=>by rw[cc.l0,if_neg qom]) (fun N i hi=>by
  have hm:=qze hi
  have hil:=co (h.2.2 _ hm)
  have hM:=h.2.1 _ hm
  have h1:=List.length_pos_iff.2 hM.2.2.1
  obtain⟨m,hm'⟩:∃m,(l[i]).Ids.length=m+1:=⟨(l[i]).Ids.length-1,by omega⟩
  have:=hM.2.2.2 _ (qze (show m<(l[i]).Ids.length by omega))
  rw[cc.l0,if_pos qom,ac qom,qzd,qzc hi]
  simp only[qzb]
  rw[ac qom,hm',wrP m qom,ac qom,qzd,qzc qom]
  simp only[qzb]
  rw[if_pos qom,wrS i qom]) k qom
 unfold cc.f
 rw[L]
 rfl
theorem F7 (k:Nat) (hk:2000000000000≤k) {now:Int} {seen:Nat} {g:GGraph} (h:iB now seen g):dl.f k g seen=some true:=by
 obtain⟨es,hi⟩:=h.inv
 have hlen:=hi.2.1
 have L:=jQ g.Nodes.length false (fun N i=>dl.l0 k g seen N i) (fun N=>by rw[dl.l0,if_neg qom]) (fun N i hlt=>by
  have hn':=qze hlt
  obtain⟨o1,o2,o3,o4,o5⟩:=mq hi hn' (h.made _ hn') h.late
  obtain⟨m1,m2,m3,m4,m5⟩:=h.made _ hn'
  have each:∀l,dA l=true→All (eH seen) l→cc.f k l seen=some true:=fun l ho hm=>GI k qom seen l ⟨by have:=jg ho;omega,hm,zd ho⟩
  rw[dl.l0,if_pos qom,ac qom,qzd,qzc hlt]
  simp only[qzb]
  rw[each _ o1 m1]
  simp only[qzb,if_true]
  rw[each _ o2 m2]
  simp only[qzb,if_true]
  rw[each _ o3 m3]
  simp only[qzb,if_true]
  rw[each _ o4 m4]
  simp only[qzb,if_true]
  rw[each _ o5 m5]
  simp only[qzb,if_true]
  rw[wrS i qom]) k qom
 unfold dl.f
 rw[L]
 rfl
/-- nearly valid: each part is small, and the graphs are graphs of something -/
structure sG (e:GEng):Prop where
 rules:e.Rules.length≤1000∧∀r∈e.Rules,mT r
 graphs:e.Graphs.length≤1000∧∀g∈e.Graphs,∃now seen,iB now seen g
 evs:e.Events.length≤1000
 keys:e.Keys.length≤1000
 fired:e.Fired.length≤560000∧∀f∈e.Fired,Few f.Occ
def qS (e:GEng) (g:GGraph):Bool:=decide (g.Seen=(e.Events.length:Int))&&decide (g.Now=aL e.Events)
def rZ (x:Int):Bool:=decide (0≤x∧x≤1000)
def oR (e:GEng) (f:GFire):Bool:=decide (0≤f.Rule∧f.Rule<(e.Rules.length:Int))&&(dx f.Occ&&decide (fm f.Occ<(e.Events.length:Int)))
def kC (e:GEng):Bool:=dQ e.Rules&&(decide (e.Graphs.length=e.Rules.length)&&(fH e.Events&&(decide (e.Keys.length=4)&&(e.Graphs.all (qS e)&&(e.Keys.all rZ&&e.Fired.all (oR e))))))
theorem Gy {α:Type} (l:List α) (p:α→Bool) (L:Nat→Int→Option (Except Int Unit)) (h0:∀N,L (N+1) (l.length:Int)=some (.ok ()))
  (h1:∀N i (h:i<l.length),L (N+1) (i:Int)=if p l[i]=true then some (.error (i:Int)) else L N ((i+1:Nat):Int)):∀(d i N:Nat),i+d=l.length→d<N→
  ∃v,L N (i:Int)=some v∧((l.drop i).any p=false∧v= .ok ()∨(l.drop i).any p=true∧∃j:Nat,v= .error (j:Int)):=by
 intro d
 induction d with
 |zero=>
  intro i N hi hN
  obtain⟨N,rfl⟩:=qsc N
  rw[qzn qom,show i=l.length by omega]
  exact⟨_,h0 N,.inl ⟨rfl,rfl⟩⟩
 |succ d ih=>
  intro i N hi hN
  obtain⟨N,rfl⟩:=qsc N
  have hlt:i<l.length:=by omega
  rw[h1 N i hlt,qzj hlt,List.any_cons]
  by_cases hp:p l[i]=true
  ·rw[if_pos hp,hp]
   exact⟨_,rfl,.inr ⟨rfl,i,rfl⟩⟩
  ·rw[if_neg hp]
   obtain⟨v,h2,h3⟩:=ih (i+1) N qom qom
   have:p l[i]=false:=by simpa using hp
   rw[this,oc]
   exact⟨v,h2,h3⟩
theorem ye {α:Type} {l:List α} {p:α→Bool} {L:Nat→Int→Option (Except Int Unit)} (h0:∀N,L (N+1) (l.length:Int)=some (.ok ()))
  (h1:∀N i (h:i<l.length),L (N+1) (i:Int)=if p l[i]=true then some (.error (i:Int)) else L N ((i+1:Nat):Int)) (N:Nat) (hN:l.length<N) :
  ((L N 0).bind fun o=>match o with| .ok _=>(some (-1))| .error r=>some r).bind (fun x2:Int=>some (!(decide (x2<0))))=some (l.any p):=by
 obtain⟨v,h2,h3⟩:=Gy l p L h0 h1 l.length 0 N qom hN
 rw[show((0:Nat):Int)=0 from rfl] at h2
 rw[h2]
 rw[qzB] at h3
 rcases h3 with⟨a,rfl⟩|⟨a,j,rfl⟩
 ·rw[a];rfl
 ·rw[a]
  show some (!(decide ((j:Int)<0)))=some true
  rw[decide_eq_false qom];rfl
theorem Cq (k:Nat) (hk:2000000≤k) (g1:GGraph→Option Bool) (p:GGraph→Bool) (l:List GGraph) (hl:l.length≤1000000) (h:∀x∈l,g1 x=some (p x)):cX.f g1 k l=some (l.any p):=
 ye (L:=aU.l0 k g1 l) (fun N=>by rw[aU.l0,if_neg qom]) (fun N i hi=>by
  rw[aU.l0,if_pos qom,ac qom,qzd,qzc hi]
  simp only[qzb]
  rw[h _ (qze hi),wrS i qom];rfl) k qom
theorem Eo (k:Nat) (hk:2000000≤k) (g1:GFire→Option Bool) (p:GFire→Bool) (l:List GFire) (hl:l.length≤1000000) (h:∀x∈l,g1 x=some (p x)):dq.f g1 k l=some (l.any p):=
 ye (L:=bd.l0 k g1 l) (fun N=>by rw[bd.l0,if_neg qom]) (fun N i hi=>by
  rw[bd.l0,if_pos qom,ac qom,qzd,qzc hi]
  simp only[qzb]
  rw[h _ (qze hi),wrS i qom];rfl) k qom
theorem Fs (k:Nat) (hk:2000000≤k) (g1:Int→Option Bool) (p:Int→Bool) (l:List Int) (hl:l.length≤1000000) (h:∀x∈l,g1 x=some (p x)):cO.f g1 k l=some (l.any p):=
 ye (L:=bj.l0 k g1 l) (fun N=>by rw[bj.l0,if_neg qom]) (fun N i hi=>by
  rw[bj.l0,if_pos qom,ac qom,qzd,qzc hi]
  simp only[qzb]
  rw[h _ (qze hi),wrS i qom];rfl) k qom
theorem DG (k:Nat) (hk:2000000000000≤k) (e:GEng) (he:e.Events.length≤1000) {now:Int} {seen:Nat} {g:GGraph} (h:iB now seen g):en.f k e g=some (qS e g):=by
 unfold qS
 by_cases h1:g.Seen=(e.Events.length:Int)
 ·by_cases h2:g.Now=aL e.Events
  ·rw[decide_eq_true h1,decide_eq_true h2]
   have hs:seen=e.Events.length:=by have:=h.seen';omega
   have hn:now=aL e.Events:=by rw[←h.now',h2]
   subst hs hn
   exact wc k hk e (tN e.Events he) h
  ·rw[decide_eq_true h1,decide_eq_false h2]
   unfold en.f
   rw[sH k hk h]
   simp only[qzb,if_true]
   rw[if_neg (by rw[h.full];decide),if_pos h1,tN e.Events he]
   simp only[qzb]
   rw[if_neg h2];rfl
 ·rw[decide_eq_false h1]
  unfold en.f
  rw[sH k hk h]
  simp only[qzb,if_true]
  rw[if_neg (by rw[h.full];decide),if_neg h1];rfl
theorem xo {o:GOcc} (h:dx o=true):dK.f o=some (fm o)∧∃m,o.Ids.length=m+1∧o.Ids[m]? =some (fm o):=by
 have h1:=((eW o).1 h).2.2.2
 have hl:=co h1.2
 obtain⟨m,hm⟩:∃m,o.Ids.length=m+1:=⟨o.Ids.length-1,by omega⟩
 have e1:o.Ids[m]? =some (fm o):=by
  unfold fm
  rw[qzS,show o.Ids.length-1=m by omega,qzc qom];rfl
 refine⟨?_,m,hm,e1⟩
 unfold dK.f
 rw[hm,wrP m qom,ac qom,qzd,e1];rfl
theorem pv (k:Nat) (hk:2000000000000≤k) {e:GEng} (h:sG e):iW.f k e=some (kC e):=by
 have hg:=h.graphs.1
 have hev:=h.evs
 have hky:=h.keys
 have hfl:=h.fired.1
 have hrl:=h.rules.1
 unfold iW.f kC
 rw[qd k qom e.Rules qom h.rules.2]
 simp only[qzb]
 cases dQ e.Rules
 ·rfl
 simp only[if_true,qzk]
 by_cases h1:e.Graphs.length=e.Rules.length
 rotate_left
 ·rw[if_neg qom,decide_eq_false h1];rfl
 rw[if_pos qom,decide_eq_true h1,Hl k e.Events hev qom]
 simp only[qzb,qzk]
 cases fH e.Events
 ·rfl
 simp only[if_true,qzk]
 by_cases h2:e.Keys.length=4
 rotate_left
 ·rw[if_neg qom,decide_eq_false h2];rfl
 rw[if_pos qom,decide_eq_true h2,Cq k qom (fun y0=>gJ.f k y0 e) (fun g=> !qS e g) e.Graphs qom (fun g hg=>by
  obtain⟨now,seen,hG⟩:=h.graphs.2 g hg
  simp only[gJ.f,DG k hk e qom hG]
  rfl)]
 simp only[qzb,qzk,←List.not_all_eq_any_not]
 cases e.Graphs.all (qS e)
 ·rfl
 simp only[Bool.not_true,qzw,if_false,qzk]
 rw[Fs k qom (fun y0=>gG.f y0) (fun x=> !rZ x) e.Keys qom (fun x hx=>by
  simp only[gG.f,fi,qzb,rZ,Bool.decide_and])]
 simp only[qzb,qzk,←List.not_all_eq_any_not]
 cases e.Keys.all rZ
 ·rfl
 simp only[Bool.not_true,qzw,if_false,qzk]
 rw[Eo k qom (fun y0=>gH.f k y0 e) (fun f=> !oR e f) e.Fired qom (fun f hf=>by
  have e1:bw.f f.Rule 0 (IntKind.wrap .i64 ((e.Rules.length:Int)-1))=some (decide (0≤f.Rule∧f.Rule<(e.Rules.length:Int))):=by
   rw[wr _ qom,fi,Bool.decide_and]
   congr 2
   exact decide_eq_decide.2 qom
  unfold oR
  simp only[gH.f,e1,qzb]
  by_cases h3:0≤f.Rule∧f.Rule<(e.Rules.length:Int)
  rotate_left
  ·rw[decide_eq_false h3];rfl
  rw[decide_eq_true h3,ny f.Occ (by have:=h.fired.2 f hf;unfold Few at this;omega) k (by have:=h.fired.2 f hf;unfold Few at this;omega)]
  simp only[qzb,if_true,qzk]
  cases h4:dx f.Occ
  ·rfl
  simp only[if_true,qzk]
  rw[(xo h4).1];rfl)]
 simp only[qzb,←List.not_all_eq_any_not,Bool.not_not]
theorem qA {α:Type} (l:List α) (p:α→Bool) (L:Nat→Int→Option (Except Bool Unit)) (h0:∀N,L (N+1) (l.length:Int)=some (.ok ()))
  (h1:∀N i (h:i<l.length),L (N+1) (i:Int)=if p l[i]=true then L N ((i+1:Nat):Int) else some (.error false)) (N:Nat) (hN:l.length<N):L N 0=some (if l.all p=true then .ok () else .error false):=by
 have:∀(d i N:Nat),i+d=l.length→d<N→L N (i:Int)=some (if(l.drop i).all p=true then .ok () else .error false):=by
  intro d
  induction d with
  |zero=>
   intro i N hi hN
   obtain⟨N,rfl⟩:=qsc N
   rw[qzn qom,show i=l.length by omega,h0];rfl
  |succ d ih=>
   intro i N hi hN
   obtain⟨N,rfl⟩:=qsc N
   have hlt:i<l.length:=by omega
   rw[h1 N i hlt,qzj hlt,qzK]
   cases hp:p l[i]
   ·rfl
   ·rw[if_pos rfl,ih (i+1) N qom qom,qzk]
 exact this l.length 0 N qom hN
theorem tb (k:Nat) (hk:2000000000000≤k) {e:GEng} (h:sG e):bt.f k e=some (kC e):=by
 have hg:=h.graphs.1
 have hev:=h.evs
 have hky:=h.keys
 have hfl:=h.fired.1
 have hrl:=h.rules.1
 have L0:=qA e.Graphs (qS e) (fun N i=>bt.l0 k e N i) (fun N=>by rw[bt.l0,if_neg qom]) (fun N i hi=>by
  obtain⟨now,seen,hG⟩:=h.graphs.2 _ (qze hi)
  rw[bt.l0,if_pos qom,ac qom,qzd,qzc hi]
  simp only[qzb]
  rw[Ep k hk hG]
  simp only[qzb,if_true]
  rw[ac qom,if_neg (by rw[hG.full];decide),ac qom]
  unfold qS
  by_cases h1:(e.Graphs[i]).Seen=(e.Events.length:Int)
  rotate_left
  ·rw[if_neg h1,decide_eq_false h1];rfl
  rw[if_pos h1,decide_eq_true h1,ac qom,(wD e.Events qom).2]
  simp only[qzb,qzk]
  have e1:BM e.Events=aL e.Events:=by
   have a:=(wD e.Events qom).1
   rw[tN e.Events qom] at a
   exact(pQ a).symm
  rw[e1]
  by_cases h2:(e.Graphs[i]).Now=aL e.Events
  rotate_left
  ·rw[if_neg h2,decide_eq_false h2];rfl
  have hs:seen=e.Events.length:=by have:=hG.seen';omega
  subst hs
  rw[if_pos h2,decide_eq_true h2,ac qom,F7 k hk hG]
  simp only[qzb,if_true]
  rw[wrS i qom]) k qom
 have L1:=qA e.Keys rZ (fun N i=>bt.l1 k e N i) (fun N=>by rw[bt.l1,if_neg qom]) (fun N i hi=>by
  rw[bt.l1,if_pos qom,ac qom,qzd,qzc hi]
  simp only[qzb]
  have:hU.f e.Keys[i]=some (rZ e.Keys[i]):=by
   unfold hU.f rZ
   by_cases a:e.Keys[i]<0
   ·rw[if_pos a,decide_eq_false qom]
   ·rw[if_neg a]
    by_cases b:1000<e.Keys[i]
    ·rw[decide_eq_true b,decide_eq_false qom];rfl
    ·rw[decide_eq_false b,decide_eq_true qom];rfl
  rw[this]
  simp only[qzb]
  rw[wrS i qom]) k qom
 have L2:=qA e.Fired (oR e) (fun N i=>bt.l2 k e N i) (fun N=>by rw[bt.l2,if_neg qom]) (fun N i hi=>by
  have hfew:=h.fired.2 _ (qze hi)
  unfold Few at hfew
  rw[bt.l2,if_pos qom,ac qom,qzd,qzc hi]
  simp only[qzb]
  unfold oR
  by_cases h1:(e.Fired[i]).Rule<0
  ·rw[if_pos h1,decide_eq_false qom];rfl
  rw[if_neg h1]
  by_cases h2:(e.Fired[i]).Rule<(e.Rules.length:Int)
  rotate_left
  ·rw[if_neg h2,decide_eq_false qom];rfl
  rw[if_pos h2,decide_eq_true ⟨by omega,h2⟩,rM _ qom k qom]
  simp only[qzb,qzk]
  cases h4:dx (e.Fired[i]).Occ
  ·rfl
  obtain⟨_,m,hm,hm2⟩:=xo h4
  simp only[if_true,qzk]
  rw[hm,wrP m qom,ac qom,qzd,hm2]
  simp only[qzb,decide_eq_true_eq]
  rw[wrS i qom]) k qom
 unfold bt.f kC
 rw[lZ k qom e.Rules qom h.rules.2]
 simp only[qzb]
 cases dQ e.Rules
 ·rfl
 simp only[if_true,qzk]
 by_cases h1:e.Graphs.length=e.Rules.length
 rotate_left
 ·rw[if_neg qom,decide_eq_false h1];rfl
 rw[if_pos qom,decide_eq_true h1,BJ k qom e.Events qom]
 simp only[qzb,qzk]
 cases fH e.Events
 ·rfl
 simp only[if_true,qzk]
 by_cases h2:e.Keys.length=4
 rotate_left
 ·rw[if_neg qom,decide_eq_false h2];rfl
 rw[if_pos qom,decide_eq_true h2,L0]
 cases e.Graphs.all (qS e)
 ·rfl
 simp only[if_true,qzb,qzk]
 rw[L1]
 cases e.Keys.all rZ
 ·rfl
 simp only[if_true,qzb,qzk]
 rw[L2]
 cases e.Fired.all (oR e) <;> rfl
/-- nearly valid and said to be valid is valid -/
theorem Dg {e:GEng} (h:sG e) (hf:e.Fired.length≤500000+2000 * e.Events.length) (ho:kC e=true):fR e:=by
 unfold kC at ho
 simp only[qzf,decide_eq_true_eq,qzN] at ho
 obtain⟨h1,h2,h3,h4,h5,h6,h7⟩:=ho
 refine⟨h1,h2,h3,fun g hg=>?_,⟨h4,fun x hx=>of_decide_eq_true (h6 x hx)⟩,hf,fun f hf'=>?_⟩
 ·obtain⟨now,seen,hG⟩:=h.graphs.2 g hg
  have:=h5 g hg
  unfold qS at this
  simp only[qzf,decide_eq_true_eq] at this
  have hs:seen=e.Events.length:=by have:=hG.seen';omega
  have hn:now=aL e.Events:=by rw[←hG.now',this.2]
  rw[←hs,←hn];exact hG
 ·have:=h7 f hf'
  unfold oR at this
  simp only[qzf,decide_eq_true_eq] at this
  obtain⟨a,b,c⟩:=this
  refine⟨a,b,?_⟩
  obtain⟨q1,q2,_,q4,q5⟩:=(eW f.Occ).1 b
  obtain⟨_,m,hm,hm2⟩:=xo b
  refine⟨q1,q2,by intro q;rw[q] at hm;simp at hm,fun x hx=>?_⟩
  obtain⟨j,hj,rfl⟩:=List.mem_iff_getElem.1 hx
  have:(f.Occ.Ids[j])≤fm f.Occ:=by
   by_cases hjm:j=m
   ·subst hjm
    rw[qzc hj] at hm2
    exact Int.le_of_eq (pQ hm2)
   ·have hmm:m<f.Occ.Ids.length:=by omega
    rw[qzc hmm] at hm2
    have:=(List.pairwise_iff_getElem.1 q5.1) j m hj hmm qom
    have:=pQ hm2
    omega
  omega
theorem qo {e:GEng} (h:fR e):sG e:=by
 have:=h.fired.1
 have:=dV h.evs
 have:=gy h.rules
 refine⟨⟨by omega,fun r hr=>(dp h.rules hr).small⟩,⟨by rw[h.len];omega,fun g hg=>⟨_,_,h.graphs g hg⟩⟩,by omega,by rw[h.keys.1];omega,by omega,fun f hf=>?_⟩
 have:=co ((eW f.Occ).1 (h.fired.2 f hf).2.1).2.2.2.2
 show f.Occ.Ids.length≤1000;omega
end Go.Proofs.YtlbnmldopjadoaaGreat
