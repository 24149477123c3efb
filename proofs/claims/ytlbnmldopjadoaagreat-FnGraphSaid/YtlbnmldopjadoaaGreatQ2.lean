/- Plain lemmas about the functions over data; third part. -/
import Derived.Test.YtlbnmldopjadoaaGreatQ1
import Derived.Laws.Strings
namespace Go.Proofs.YtlbnmldopjadoaaGreat
open Go Go.Vm
set_option linter.unusedVariables false
set_option linter.unusedSimpArgs false
def bo (mode:Int) (l:List GEv) (T:Int) (e:GEx) (j:Nat):List GOcc:=(e.Kids.map (bf mode l T)).getD j []
structure xC (mode:Int) (l:List GEv) (T:Int) (n:GNode) (e:GEx):Prop where
 many:n.Many=((bf mode l T e).length:Int)
 p3:n.Kind=3→(n.Pair.Left,n.Pair.Right)=stP (iR mode) (bo mode l T e 0) (bo mode l T e 1)
 p4:n.Kind=4→(n.Pair.Left,n.Pair.Right)=stP (iS mode) (bo mode l T e 0) (bo mode l T e 1)
 p5:n.Kind=5→(n.Span.Left,n.Span.Mid)=stS (jk mode) (bo mode l T e 0) (bo mode l T e 1) (bo mode l T e 2)
 p6:n.Kind=6→(n.Span.Left,n.Span.Mid)=stS (gx mode) (bo mode l T e 0) (bo mode l T e 1) (bo mode l T e 2)
 p7:n.Kind=7→n.Due=gj n.N T (bo mode l T e 0)
def mF (mode:Int) (l:List GEv) (T:Int) (es:List GEx) (ns:List GNode):Prop:=∀(i:Nat) (n:GNode) (e:GEx),ns[i]? =some n→es[i]? =some e→xC mode l T n e
theorem Ep (mode:Int) (p:Two):iR mode p [] []=(p,[]):=rfl
theorem Es (mode:Int) (p:Two):iS mode p [] []=(p,[]):=rfl
theorem EF (mode:Int) (p:Two):jk mode p [] [] []=(p,[]):=rfl
theorem DR (mode:Int) (p:Two):gx mode p [] [] []=(p,[]):=rfl
/-- the kids of a part, as they grow -/
structure KidG (mode:Int) (l:List GEv) (T t:Int) (e:GEx) (found:List (List GOcc)) (n:GNode) (j:Nat):Prop where
 eq:bo mode l t e j=bo mode l T e j++ap found n j
 gr:gw T t (bo mode l T e j) (ap found n j)
 aa:Asc (bo mode l T e j)
 fa:Asc (ap found n j)
/-- what happens at a time -/
def ln (l:List GEv) (T t:Int) (ev:Option Int) (seen:Int):Prop:=∀s,dx t (bY s 0 l)=dx T (bY s 0 l)++(if ev=some s then[⟨t,t,[seen]⟩] else[])
theorem kC {T t:Int} (hTt:T<t) {a F:List GOcc} (ha:Asc a) (hF:Asc F) (h1:∀o∈a,o.To≤T) (h2:∀o∈F,o.To=t):bd a F=a++F:=
 kL F a (iF ha hF fun x hx y hy=>by have:=h1 x hx;have:=h2 y hy;omega)
theorem Cn {mode:Int} {l:List GEv} (hl:l.Pairwise fun a b=>a.At<b.At) {T t:Int} (hTt:T<t) (ht:1≤t∧t≤2000) {ev:Option Int} {seen:Int} (hev:ln l T t ev seen) {es:List GEx} {i:Nat} {n:GNode} {e:GEx} {found:List (List GOcc)}
  (hx:eP e) (hR:jZ es i n e) (hH:xC mode l T n e) (hk:∀j,j<e.Kids.length→KidG mode l T t e found n j) (hd:∀o∈n.Due,t≤o.To) (hF:Asc (au mode seen t ev found n).2∧∀o∈(au mode seen t ev found n).2,o.To=t) :
  bf mode l t e=bf mode l T e++(au mode seen t ev found n).2∧xC mode l t (dX (au mode seen t ev found n)) e:=by
 have hform:=hx.1
 have hK:=hR.1
 have hVA:=sd (mode:=mode) hl T e
 have hVT:=Cw (mode:=mode) hl (T:=T) hform
 have fin:bf mode l t e=bf mode l T e++(au mode seen t ev found n).2→(dX (au mode seen t ev found n)).Many=((bf mode l t e).length:Int):=fun q=>by
  have k5:=(fC (mode:=mode) (seen:=seen) (t:=t) (ev:=ev) (found:=found) (n:=n)).2.2.2.2
  show(au mode seen t ev found n).1.Many+_=_
  rw[k5,q,List.length_append,hH.many];omega
 have kd:(au mode seen t ev found n).1.Kind=n.Kind:=fC.1
 have kn:(au mode seen t ev found n).1.N=n.N:=fC.2.2.1
 have val:∀T',bf mode l T' e=if e.Kind=1 then dx T' (bY e.Sym 0 l) else gv mode T' e.Kind e.N (e.Kids.map (bf mode l T')):=fun T'=>mW mode l T' e
 rcases dY (bP hform).1 with⟨hk',hl'⟩|⟨hk',hl'⟩|⟨hk',hl'⟩|⟨hk',hl'⟩|⟨hk',hl'⟩|⟨hk',hl'⟩|⟨hk',hl',n1,n2⟩
 ·have hn:n.Kind=1:=by omega
  have e1:bf mode l t e=bf mode l T e++(au mode seen t ev found n).2:=by
   rw[val t,val T,if_pos hk',if_pos hk',hev e.Sym]
   unfold au
   rw[if_pos hn,hR.2.1]
  exact⟨e1,⟨fin e1,fun q=>absurd (kd.symm.trans q) (by omega),fun q=>absurd (kd.symm.trans q) (by omega),fun q=>absurd (kd.symm.trans q) (by omega),fun q=>absurd (kd.symm.trans q) (by omega),fun q=>absurd (kd.symm.trans q) (by omega)⟩⟩
 ·have hn:n.Kind=2:=by omega
  obtain⟨a1,a2,a3,a4⟩:=hk 0 (by omega)
  obtain⟨b1,b2,b3,b4⟩:=hk 1 (by omega)
  have e1:bf mode l t e=bf mode l T e++(au mode seen t ev found n).2:=by
   rw[val t,val T,if_neg (by omega),if_neg (by omega)]
   unfold gv au
   rw[if_pos hk',if_pos hk',if_neg (by omega),if_pos hn]
   show bd (bo mode l t e 0) (bo mode l t e 1)=bd (bo mode l T e 0) (bo mode l T e 1)++_
   rw[a1,b1,By hTt a2 b2 a3 a4]
  exact⟨e1,⟨fin e1,fun q=>absurd (kd.symm.trans q) (by omega),fun q=>absurd (kd.symm.trans q) (by omega),fun q=>absurd (kd.symm.trans q) (by omega),fun q=>absurd (kd.symm.trans q) (by omega),fun q=>absurd (kd.symm.trans q) (by omega)⟩⟩
 ·have hn:n.Kind=3:=by omega
  obtain⟨a1,a2,a3,a4⟩:=hk 0 (by omega)
  obtain⟨b1,b2,b3,b4⟩:=hk 1 (by omega)
  have g:=wb (f:=iR mode) (Ep mode) hTt ht a2 b2
  have h3:=hH.p3 hn
  have hf:(au mode seen t ev found n).2=(iR mode (stP (iR mode) (bo mode l T e 0) (bo mode l T e 1)) (ap found n 0) (ap found n 1)).2:=by
   rw[←h3];unfold au iR;rw[if_neg (by omega),if_neg (by omega),if_pos hn]
  have hs:((au mode seen t ev found n).1.Pair.Left,(au mode seen t ev found n).1.Pair.Right)=(iR mode (stP (iR mode) (bo mode l T e 0) (bo mode l T e 1)) (ap found n 0) (ap found n 1)).1:=by
   rw[←h3];unfold au iR;rw[if_neg (by omega),if_neg (by omega),if_pos hn]
  have vT:bf mode l T e=fG (iR mode) (bo mode l T e 0) (bo mode l T e 1):=by
   rw[val T,if_neg (by omega)];unfold gv;rw[if_neg (by omega),if_pos hk'];rfl
  have e1:bf mode l t e=bf mode l T e++(au mode seen t ev found n).2:=by
   rw[val t,if_neg (by omega)]
   unfold gv
   rw[if_neg (by omega),if_pos hk']
   show fG (iR mode) (bo mode l t e 0) (bo mode l t e 1)=_
   rw[a1,b1,g.2,←hf,←vT]
   exact kC hTt hVA hF.1 hVT hF.2
  refine⟨e1,⟨fin e1,fun _=>?_,fun q=>absurd (kd.symm.trans q) (by omega),fun q=>absurd (kd.symm.trans q) (by omega),fun q=>absurd (kd.symm.trans q) (by omega),fun q=>absurd (kd.symm.trans q) (by omega)⟩⟩
  show((au mode seen t ev found n).1.Pair.Left,(au mode seen t ev found n).1.Pair.Right)=_
  rw[hs,a1,b1,g.1]
 ·have hn:n.Kind=4:=by omega
  obtain⟨a1,a2,a3,a4⟩:=hk 0 (by omega)
  obtain⟨b1,b2,b3,b4⟩:=hk 1 (by omega)
  have g:=wb (f:=iS mode) (Es mode) hTt ht a2 b2
  have h4:=hH.p4 hn
  have hf:(au mode seen t ev found n).2=(iS mode (stP (iS mode) (bo mode l T e 0) (bo mode l T e 1)) (ap found n 0) (ap found n 1)).2:=by
   rw[←h4];unfold au iS;rw[if_neg (by omega),if_neg (by omega),if_neg (by omega),if_pos hn]
  have hs:((au mode seen t ev found n).1.Pair.Left,(au mode seen t ev found n).1.Pair.Right)=(iS mode (stP (iS mode) (bo mode l T e 0) (bo mode l T e 1)) (ap found n 0) (ap found n 1)).1:=by
   rw[←h4];unfold au iS;rw[if_neg (by omega),if_neg (by omega),if_neg (by omega),if_pos hn]
  have vT:bf mode l T e=fG (iS mode) (bo mode l T e 0) (bo mode l T e 1):=by
   rw[val T,if_neg (by omega)];unfold gv;rw[if_neg (by omega),if_neg (by omega),if_pos hk'];rfl
  have e1:bf mode l t e=bf mode l T e++(au mode seen t ev found n).2:=by
   rw[val t,if_neg (by omega)]
   unfold gv
   rw[if_neg (by omega),if_neg (by omega),if_pos hk']
   show fG (iS mode) (bo mode l t e 0) (bo mode l t e 1)=_
   rw[a1,b1,g.2,←hf,←vT]
   exact kC hTt hVA hF.1 hVT hF.2
  refine⟨e1,⟨fin e1,fun q=>absurd (kd.symm.trans q) (by omega),fun _=>?_,fun q=>absurd (kd.symm.trans q) (by omega),fun q=>absurd (kd.symm.trans q) (by omega),fun q=>absurd (kd.symm.trans q) (by omega)⟩⟩
  show((au mode seen t ev found n).1.Pair.Left,(au mode seen t ev found n).1.Pair.Right)=_
  rw[hs,a1,b1,g.1]
 ·have hn:n.Kind=5:=by omega
  obtain⟨a1,a2,a3,a4⟩:=hk 0 (by omega)
  obtain⟨b1,b2,b3,b4⟩:=hk 1 (by omega)
  obtain⟨c1,c2,c3,c4⟩:=hk 2 (by omega)
  have g:=wK (f:=jk mode) (EF mode) hTt ht a2 b2 c2
  have h5:=hH.p5 hn
  have hf:(au mode seen t ev found n).2=(jk mode (stS (jk mode) (bo mode l T e 0) (bo mode l T e 1) (bo mode l T e 2)) (ap found n 0) (ap found n 1) (ap found n 2)).2:=by
   rw[←h5];unfold au jk;rw[if_neg (by omega),if_neg (by omega),if_neg (by omega),if_neg (by omega),if_pos hn]
  have hs:((au mode seen t ev found n).1.Span.Left,(au mode seen t ev found n).1.Span.Mid)=(jk mode (stS (jk mode) (bo mode l T e 0) (bo mode l T e 1) (bo mode l T e 2)) (ap found n 0) (ap found n 1) (ap found n 2)).1:=by
   rw[←h5];unfold au jk;rw[if_neg (by omega),if_neg (by omega),if_neg (by omega),if_neg (by omega),if_pos hn]
  have vT:bf mode l T e=fH (jk mode) (bo mode l T e 0) (bo mode l T e 1) (bo mode l T e 2):=by
   rw[val T,if_neg (by omega)];unfold gv;rw[if_neg (by omega),if_neg (by omega),if_neg (by omega),if_pos hk'];rfl
  have e1:bf mode l t e=bf mode l T e++(au mode seen t ev found n).2:=by
   rw[val t,if_neg (by omega)]
   unfold gv
   rw[if_neg (by omega),if_neg (by omega),if_neg (by omega),if_pos hk']
   show fH (jk mode) (bo mode l t e 0) (bo mode l t e 1) (bo mode l t e 2)=_
   rw[a1,b1,c1,g.2,←hf,←vT]
   exact kC hTt hVA hF.1 hVT hF.2
  refine⟨e1,⟨fin e1,fun q=>absurd (kd.symm.trans q) (by omega),fun q=>absurd (kd.symm.trans q) (by omega),fun _=>?_,fun q=>absurd (kd.symm.trans q) (by omega),fun q=>absurd (kd.symm.trans q) (by omega)⟩⟩
  show((au mode seen t ev found n).1.Span.Left,(au mode seen t ev found n).1.Span.Mid)=_
  rw[hs,a1,b1,c1,g.1]
 ·have hn:n.Kind=6:=by omega
  obtain⟨a1,a2,a3,a4⟩:=hk 0 (by omega)
  obtain⟨b1,b2,b3,b4⟩:=hk 1 (by omega)
  obtain⟨c1,c2,c3,c4⟩:=hk 2 (by omega)
  have g:=wK (f:=gx mode) (DR mode) hTt ht a2 b2 c2
  have h6:=hH.p6 hn
  have hf:(au mode seen t ev found n).2=(gx mode (stS (gx mode) (bo mode l T e 0) (bo mode l T e 1) (bo mode l T e 2)) (ap found n 0) (ap found n 1) (ap found n 2)).2:=by
   rw[←h6];unfold au gx;rw[if_neg (by omega),if_neg (by omega),if_neg (by omega),if_neg (by omega),if_neg (by omega),if_pos hn]
  have hs:((au mode seen t ev found n).1.Span.Left,(au mode seen t ev found n).1.Span.Mid)=(gx mode (stS (gx mode) (bo mode l T e 0) (bo mode l T e 1) (bo mode l T e 2)) (ap found n 0) (ap found n 1) (ap found n 2)).1:=by
   rw[←h6];unfold au gx;rw[if_neg (by omega),if_neg (by omega),if_neg (by omega),if_neg (by omega),if_neg (by omega),if_pos hn]
  have vT:bf mode l T e=fH (gx mode) (bo mode l T e 0) (bo mode l T e 1) (bo mode l T e 2):=by
   rw[val T,if_neg (by omega)];unfold gv;rw[if_neg (by omega),if_neg (by omega),if_neg (by omega),if_neg (by omega),if_pos hk'];rfl
  have e1:bf mode l t e=bf mode l T e++(au mode seen t ev found n).2:=by
   rw[val t,if_neg (by omega)]
   unfold gv
   rw[if_neg (by omega),if_neg (by omega),if_neg (by omega),if_neg (by omega),if_pos hk']
   show fH (gx mode) (bo mode l t e 0) (bo mode l t e 1) (bo mode l t e 2)=_
   rw[a1,b1,c1,g.2,←hf,←vT]
   exact kC hTt hVA hF.1 hVT hF.2
  refine⟨e1,⟨fin e1,fun q=>absurd (kd.symm.trans q) (by omega),fun q=>absurd (kd.symm.trans q) (by omega),fun q=>absurd (kd.symm.trans q) (by omega),fun _=>?_,fun q=>absurd (kd.symm.trans q) (by omega)⟩⟩
  show((au mode seen t ev found n).1.Span.Left,(au mode seen t ev found n).1.Span.Mid)=_
  rw[hs,a1,b1,c1,g.1]
 ·have hn:n.Kind=7:=by omega
  obtain⟨a1,a2,a3,a4⟩:=hk 0 (by omega)
  have h7:=hH.p7 hn
  have hN:=hR.2.2.1
  have hw:∀o∈gj n.N T (bo mode l T e 0),t≤o.To:=fun o ho=>hd o (by rw[h7];exact ho)
  have g1:=Br (n:=n.N) (by omega) hTt ht.2 a2 a3 a4 hw
  have g2:=Ee (n:=n.N) (by omega) hTt a2 a3 a4 hw
  have hf:(au mode seen t ev found n).2=(gj n.N T (bo mode l T e 0)).filter fun o=>o.To==t:=by
   rw[←h7];unfold au atM;rw[if_neg (by omega),if_neg (by omega),if_neg (by omega),if_neg (by omega),if_neg (by omega),if_neg (by omega)]
  have hs:(au mode seen t ev found n).1.Due=qT t n.N (gj n.N T (bo mode l T e 0)) (ap found n 0):=by
   rw[←h7];unfold au;rw[if_neg (by omega),if_neg (by omega),if_neg (by omega),if_neg (by omega),if_neg (by omega),if_neg (by omega)]
  have e1:bf mode l t e=bf mode l T e++(au mode seen t ev found n).2:=by
   rw[val t,val T,if_neg (by omega),if_neg (by omega)]
   unfold gv
   rw[if_neg (by omega),if_neg (by omega),if_neg (by omega),if_neg (by omega),if_neg (by omega),if_neg (by omega),if_neg (by omega),if_neg (by omega),if_neg (by omega),if_neg (by omega)]
   show dE e.N t (bo mode l t e 0)=dE e.N T (bo mode l T e 0)++_
   rw[a1,←hN,g1,hf]
  refine⟨e1,⟨fin e1,fun q=>absurd (kd.symm.trans q) (by omega),fun q=>absurd (kd.symm.trans q) (by omega),fun q=>absurd (kd.symm.trans q) (by omega),fun q=>absurd (kd.symm.trans q) (by omega),fun _=>?_⟩⟩
  show(au mode seen t ev found n).1.Due=gj (au mode seen t ev found n).1.N t (bo mode l t e 0)
  rw[hs,g2,kn,a1]
theorem um {mode:Int} {l:List GEv} (hl:l.Pairwise fun a b=>a.At<b.At) {T t:Int} (hTt:T<t) (ht:1≤t∧t≤1000) {ev:Option Int} {seen:Int} (hs:0≤seen∧seen≤23) (hev:ln l T t ev seen) {es:List GEx} {ns:List GNode}
  (hG:eO T es ns) (hH:mF mode l T es ns) (hd:∀n∈ns,∀o∈n.Due,t≤o.To) :
  (∀(i:Nat) (n:GNode) (e:GEx),ns[i]? =some n→es[i]? =some e→bf mode l t e=bf mode l T e++(aA mode seen t ev ns).2.getD i [])∧mF mode l t es (aA mode seen t ev ns).1:=by
 have hR:=hG.ready (t:=t) (by omega)
 have pf:=oc (mode:=mode) (ev:=ev) hR hs
 have all:∀(i:Nat) (n:GNode) (e:GEx),ns[i]? =some n→es[i]? =some e→bf mode l t e=bf mode l T e++(au mode seen t ev (aA mode seen t ev ns).2 n).2∧xC mode l t (dX (au mode seen t ev (aA mode seen t ev ns).2 n)) e:=by
  intro i
  induction i using Nat.strongRecOn with
  |_ i ih=>
  intro n e hn he
  obtain⟨e',he',hx,hr⟩:=hG.1.2 i n hn
  rw[he] at he';cases he'
  obtain⟨g1,g2⟩:=fQ (mode:=mode) (seen:=seen) (t:=t) (ev:=ev) hG.1 hn
  obtain⟨e',he',fo⟩:=pf i _ g2
  refine Cn hl hTt ⟨ht.1,by omega⟩ hev hx hr (hH i n e hn he) (fun j hj=>?_) (hd n (List.mem_of_getElem? hn)) ⟨fo.1,fo.2.2.2⟩
  obtain⟨q,q1,q2,q3⟩:=hr.2.2.2.2 j hj
  have hxj:e.Kids[j]? =some e.Kids[j]:=List.getElem?_eq_getElem hj
  have hi:i<ns.length:=(List.getElem?_eq_some_iff.1 hn).1
  have hql:q<ns.length:=by omega
  have hnq:=List.getElem?_eq_getElem hql
  have heq:es[q]? =some e.Kids[j]:=q3.trans hxj
  obtain⟨v,_⟩:=ih q q1 ns[q] e.Kids[j] hnq heq
  obtain⟨_,p2⟩:=fQ (mode:=mode) (seen:=seen) (t:=t) (ev:=ev) hG.1 hnq
  obtain⟨_,_,fq⟩:=pf q _ p2
  have kv:∀T',bo mode l T' e j=bf mode l T' e.Kids[j]:=fun T'=>by unfold bo;rw[List.getD_eq_getElem?_getD,List.getElem?_map,hxj];rfl
  have km:ap (aA mode seen t ev ns).2 n j=(au mode seen t ev (aA mode seen t ev ns).2 ns[q]).2:=by
   unfold ap
   rw[List.getD_eq_getElem?_getD,List.getD_eq_getElem?_getD,q2]
   simp only[Option.getD_some,Int.toNat_natCast]
   rw[p2];rfl
  have hfk:=hx.kid (List.getElem_mem hj)
  refine⟨by rw[kv,kv,km];exact v,⟨by rw[kv];exact Cw hl hfk.1,by rw[km];exact fq.2.2.2⟩,by rw[kv];exact sd hl T _,by rw[km];exact fq.1⟩
 refine⟨fun i n e hn he=>?_,fun i r e hr he=>?_⟩
 ·rw[(all i n e hn he).1]
  congr 1
  rw[List.getD_eq_getElem?_getD,(fQ (mode:=mode) (seen:=seen) (t:=t) (ev:=ev) hG.1 hn).2];rfl
 ·have pl:=dS mode seen t ev ns
  have hi:i<ns.length:=by have:=(List.getElem?_eq_some_iff.1 hr).1;omega
  have hn:=List.getElem?_eq_getElem hi
  rw[(fQ (mode:=mode) (seen:=seen) (t:=t) (ev:=ev) hG.1 hn).1] at hr
  cases hr
  exact(all i _ e hn he).2
theorem xG:∀x:GEx,∀y∈gl x,exN y≤exN x:=by
 refine eC fun x ih y hy=>?_
 rcases eX.1 hy with rfl|⟨k,hk,h⟩
 ·exact Nat.le_refl _
 ·have:=ih k hk y h
  have:=dQ hk
  rw[cK x];omega
def Bj (es:List GEx) (ns:List GNode) (S:GEx→Prop) (r:List GNode) (ok:List GEx→Prop):Prop:=∃es' nx,r=ns++nx∧Rep (es++es') (ns++nx)∧(∀e∈es',S e)∧(∀n∈nx,xE n)∧ok (es++es')
theorem yI {xs:List GEx} (H:∀x∈xs,∀es ns,Rep es ns→Bj es ns (fun e=>e∈gl x) (cW x ns).2 fun es=>∃q:Nat,(cW x ns).1=(q:Int)∧es[q]? =some x) :
  ∀es ns,Rep es ns→Bj es ns (fun e=>e∈jy xs) (cc xs ns).2 fun es=>(cc xs ns).1.length=xs.length∧∀(j:Nat) (x:GEx),xs[j]? =some x→∃q:Nat,(cc xs ns).1[j]? =some (q:Int)∧es[q]? =some x:=by
 induction xs with
 |nil=>
  intro es ns h
  rw[mh]
  exact⟨[],[],by simp,by simpa using h,by simp,by simp,rfl,fun j x hj=>by simp at hj⟩
 |cons x xs ih=>
  intro es ns h
  obtain⟨e1,n1,a1,a2,a3,a4,q,a5,a6⟩:=H x (by simp) es ns h
  obtain⟨e2,n2,b1,b2,b3,b4,b5,b6⟩:=ih (fun y hy=>H y (by simp[hy])) _ _ a2
  rw[kP]
  simp only
  rw[a1]
  refine⟨e1++e2,n1++n2,by rw[b1,List.append_assoc],by rw[←List.append_assoc,←List.append_assoc];exact b2,fun e he=>?_,fun n hn=>(List.mem_append.1 hn).elim (a4 n) (b4 n),by simp[b5],fun j y hj=>?_⟩
  ·simp only[jy,List.mem_append]
   exact(List.mem_append.1 he).elim (fun q=>.inl (a3 e q)) fun q=>.inr (b3 e q)
  ·rw[←List.append_assoc]
   cases j with
   |zero=>
    simp only[List.getElem?_cons_zero,Option.some.injEq] at hj
    subst hj
    exact⟨q,by rw[List.getElem?_cons_zero,a5],oR a6⟩
   |succ j=>
    rw[List.getElem?_cons_succ] at hj⊢
    exact b6 j y hj
/-- a part that is there already is the same expression -/
theorem pw {x:GEx} {E:List GEx} {N:List GNode} {ks:List Int} (h:Rep E N) (hl:ks.length=x.Kids.length) (hk:∀(j:Nat) (y:GEx),x.Kids[j]? =some y→∃q:Nat,ks[j]? =some (q:Int)∧E[q]? =some y) {i:Nat} (hi:i<N.length) (hkey:iO N[i] (fy x.Kind x.Sym x.N ks)=true):E[i]? =some x:=by
 obtain⟨k1,k2,k3,k4⟩:=(qr _ _).1 hkey
 obtain⟨e,he,_,hr⟩:=h.2 i _ (List.getElem?_eq_getElem hi)
 rw[he]
 congr 1
 refine ut (hr.1.symm.trans k1) (hr.2.1.symm.trans k2) (hr.2.2.1.symm.trans k3) (List.ext_getElem? fun j=>?_)
 have hlen:e.Kids.length=x.Kids.length:=by rw[←hr.2.2.2.1,k4];exact hl
 rcases Nat.lt_or_ge j e.Kids.length with hj|hj
 ·obtain⟨q,_,q2,q3⟩:=hr.2.2.2.2 j hj
  obtain⟨q',p1,p2⟩:=hk j x.Kids[j] (List.getElem?_eq_getElem (by omega))
  rw[k4] at q2
  have hq:some (q':Int)=some (q:Int):=p1.symm.trans q2
  have:q'=q:=Int.ofNat.inj (Option.some.inj hq)
  subst this
  rw[←q3,p2,List.getElem?_eq_getElem (by omega)]
 ·rw[List.getElem?_eq_none hj,List.getElem?_eq_none (by omega)]
theorem tE {x:GEx} (hx:eP x) {E:List GEx} {N:List GNode} {ks:List Int} (h:Rep E N) (hl:ks.length=x.Kids.length) (hk:∀(j:Nat) (y:GEx),x.Kids[j]? =some y→∃q:Nat,ks[j]? =some (q:Int)∧E[q]? =some y):Rep (E++[x]) (N++[fy x.Kind x.Sym x.N ks]):=by
 refine⟨by have:=h.1;simp only[List.length_append,List.length_singleton] at this⊢;omega,fun i n hn=>?_⟩
 rcases Nat.lt_or_ge i N.length with hlt|hge
 ·rw[List.getElem?_append_left hlt] at hn
  obtain⟨e,he,hf,hr⟩:=h.2 i n hn
  refine⟨e,oR he,hf,hr.1,hr.2.1,hr.2.2.1,hr.2.2.2.1,fun j hj=>?_⟩
  obtain⟨q,q1,q2,q3⟩:=hr.2.2.2.2 j hj
  refine⟨q,q1,q2,?_⟩
  rw[List.getElem?_append_left (by rw[h.1];omega)];exact q3
 ·rw[List.getElem?_append_right hge] at hn
  have:i=N.length:=by
   have:=(List.getElem?_eq_some_iff.1 hn).1
   simp only[List.length_singleton] at this;omega
  subst this
  rw[Nat.sub_self,List.getElem?_cons_zero] at hn
  cases hn
  refine⟨x,?_,hx,rfl,rfl,rfl,hl,fun j hj=>?_⟩
  ·rw[←h.1,List.getElem?_append_right (Nat.le_refl _),Nat.sub_self];rfl
  ·obtain⟨q,p1,p2⟩:=hk j x.Kids[j] (List.getElem?_eq_getElem hj)
   have hq:q<E.length:=(List.getElem?_eq_some_iff.1 p2).1
   refine⟨q,by rw[←h.1];exact hq,p1,?_⟩
   rw[List.getElem?_append_left hq,p2,List.getElem?_eq_getElem hj]
theorem Ao:∀x:GEx,eP x→∀es ns,Rep es ns→Bj es ns (fun e=>e∈gl x) (cW x ns).2 fun es=>∃q:Nat,(cW x ns).1=(q:Int)∧es[q]? =some x:=by
 refine eC fun x ih hx es ns h=>?_
 obtain⟨e1,n1,a1,a2,a3,a4,a5,a6⟩:=yI (fun y hy=>ih y hy (hx.kid hy)) es ns h
 have hs:∀e∈e1,e∈gl x:=fun e he=>by
  obtain⟨z,hz,q⟩:=jn.1 (a3 e he)
  exact eX.2 (.inr ⟨z,hz,q⟩)
 rw[mU]
 unfold lR
 rw[a1]
 cases hfi:(ns++n1).findIdx? fun m=>iO m (fy x.Kind x.Sym x.N (cc x.Kids ns).1) with
 |some i=>
  simp only
  rw[List.findIdx?_eq_some_iff_getElem] at hfi
  obtain⟨hi,hk,_⟩:=hfi
  exact⟨e1,n1,rfl,a2,hs,a4,i,rfl,pw a2 a5 a6 hi hk⟩
 |none=>
  simp only
  refine⟨e1++[x],n1++[fy x.Kind x.Sym x.N (cc x.Kids ns).1],by rw[List.append_assoc],?_,fun e he=>?_,fun n hn=>?_,(ns++n1).length,rfl,?_⟩
  ·rw[←List.append_assoc,←List.append_assoc]
   exact tE hx a2 a5 a6
  ·rcases List.mem_append.1 he with q|q
   ·exact hs e q
   ·rw[List.mem_singleton.1 q];exact eX.2 (.inl rfl)
  ·rcases List.mem_append.1 hn with q|q
   ·exact a4 n q
   ·rw[List.mem_singleton.1 q];exact⟨rfl,rfl,rfl,rfl⟩
  ·rw[←List.append_assoc,←a2.1,List.getElem?_append_right (Nat.le_refl _),Nat.sub_self];rfl
theorem xH {es es':List GEx} {ns:List GNode} (h:Rep es ns) (h':Rep es' ns):∀i:Nat,es[i]? =es'[i]? :=by
 intro i
 induction i using Nat.strongRecOn with
 |_ i ih=>
 rcases Nat.lt_or_ge i ns.length with hi|hi
 ·obtain⟨e,he,_,r⟩:=h.2 i _ (List.getElem?_eq_getElem hi)
  obtain⟨e',he',_,r'⟩:=h'.2 i _ (List.getElem?_eq_getElem hi)
  rw[he,he']
  congr 1
  refine ut (r.1.symm.trans r'.1) (r.2.1.symm.trans r'.2.1) (r.2.2.1.symm.trans r'.2.2.1) (List.ext_getElem? fun j=>?_)
  have hlen:e.Kids.length=e'.Kids.length:=r.2.2.2.1.symm.trans r'.2.2.2.1
  rcases Nat.lt_or_ge j e.Kids.length with hj|hj
  ·obtain⟨q,q1,q2,q3⟩:=r.2.2.2.2 j hj
   obtain⟨p,p1,p2,p3⟩:=r'.2.2.2.2 j (by omega)
   rw[q2] at p2
   have:q=p:=Int.ofNat.inj (Option.some.inj p2)
   subst this
   rw[←q3,←p3];exact ih q q1
  ·rw[List.getElem?_eq_none hj,List.getElem?_eq_none (by omega)]
 ·rw[List.getElem?_eq_none (by rw[h.1];exact hi),List.getElem?_eq_none (by rw[h'.1];exact hi)]
/-- the parts of an expression are its subexpressions, itself the last -/
theorem BM {x:GEx} (hx:eP x):∃es,eO 0 es (cW x []).2∧(∀e∈es,e∈gl x)∧es[(cW x []).2.length-1]? =some x∧∀n∈(cW x []).2,xE n:=by
 obtain⟨es,hG,_⟩:=qz hx
 obtain⟨es',nx,a1,a2,a3,a4,_⟩:=Ao x hx [] [] oT
 simp only[List.nil_append] at a1 a2
 have heq:es=es':=List.ext_getElem? fun i=>by
  have h1:=hG.1
  rw[a1] at h1
  exact xH h1 a2 i
 subst heq
 refine⟨es,hG,a3,?_,by rw[a1];exact a4⟩
 obtain⟨e1,n1,b1,b2,b3,b4,b5,b6⟩:=yI (xs:=x.Kids) (fun y hy=>Ao y (hx.kid hy)) [] [] oT
 simp only[List.nil_append] at b1 b2 b6
 have hplace:(cW x []).2=n1++[fy x.Kind x.Sym x.N (cc x.Kids []).1]:=by
  rw[mU]
  unfold lR
  rw[b1]
  cases hfi:n1.findIdx? fun m=>iO m (fy x.Kind x.Sym x.N (cc x.Kids []).1) with
  |none=>rfl
  |some i=>
   exfalso
   rw[List.findIdx?_eq_some_iff_getElem] at hfi
   obtain⟨hi,hk,_⟩:=hfi
   have hm:=List.mem_of_getElem? (pw b2 b5 b6 hi hk)
   obtain⟨z,hz,q⟩:=jn.1 (b3 x hm)
   have:=xG z x q
   have:=dQ hz
   rw[cK x] at *
   omega
 have hR:=tE hx b2 b5 b6
 rw[←hplace] at hR
 rw[xH hG.1 hR,hplace,List.length_append,List.length_singleton,Nat.add_sub_cancel,←b2.1,List.getElem?_append_right (Nat.le_refl _),Nat.sub_self];rfl
theorem DW {es:List GEx} {ns:List GNode} (h:Rep es ns):∀x:GEx,x∈es→∀y∈gl x,y∈es:=by
 refine eC fun x ih hx y hy=>?_
 rcases eX.1 hy with rfl|⟨k,hk,hy'⟩
 ·exact hx
 ·refine ih k hk ?_ y hy'
  obtain⟨i,hi⟩:=List.mem_iff_getElem?.1 hx
  have hil:i<ns.length:=by have:=(List.getElem?_eq_some_iff.1 hi).1;rw[h.1] at this;exact this
  obtain⟨e,he,_,r⟩:=h.2 i _ (List.getElem?_eq_getElem hil)
  rw[hi] at he;cases he
  obtain⟨j,hj⟩:=List.mem_iff_getElem?.1 hk
  obtain⟨q,_,_,q3⟩:=r.2.2.2.2 j (List.getElem?_eq_some_iff.1 hj).1
  rw[hj] at q3
  exact List.mem_of_getElem? q3
def mV (mode:Int) (l:List GEv) (es:List GEx) (till:Int):Prop:=∃e∈es,∃T,T≤till∧40<(bf mode l T e).length
theorem wL {mode:Int} {l:List GEv} {T:Int} {es:List GEx} {ns:List GNode} (hR:Rep es ns) (hH:mF mode l T es ns) (hf:cI ns=true):∃e∈es,40<(bf mode l T e).length:=by
 unfold cI at hf
 rw[List.any_eq_true] at hf
 obtain⟨n,hn,h⟩:=hf
 obtain⟨i,hi⟩:=List.mem_iff_getElem?.1 hn
 obtain⟨e,he,_⟩:=hR.2 i n hi
 have:=(hH i n e hi he).many
 simp only[decide_eq_true_eq] at h
 exact⟨e,List.mem_of_getElem? he,by omega⟩
theorem wA {mode seen t:Int} {ev:Option Int} {es:List GEx} {ns:List GNode} (h:Rep es ns):Rep es (aA mode seen t ev ns).1:=by
 have pl:=dS mode seen t ev ns
 refine⟨by rw[pl.1];exact h.1,fun i r hr=>?_⟩
 have hi:i<ns.length:=by have:=(List.getElem?_eq_some_iff.1 hr).1;omega
 obtain⟨e,he,hx,hn⟩:=h.2 i ns[i] (List.getElem?_eq_getElem hi)
 rw[(fQ h (List.getElem?_eq_getElem hi)).1] at hr
 cases hr
 obtain⟨k1,k2,k3,k4,_⟩:=fC (mode:=mode) (seen:=seen) (t:=t) (ev:=ev) (found:=(aA mode seen t ev ns).2) (n:=ns[i])
 refine⟨e,he,hx,k1.trans hn.1,k2.trans hn.2.1,k3.trans hn.2.2.1,?_,?_⟩
 ·show((au mode seen t ev (aA mode seen t ev ns).2 ns[i]).1).Kids.length=_;rw[k4];exact hn.2.2.2.1
 ·show ∀j,j<e.Kids.length→∃q:Nat,q<i∧((au mode seen t ev (aA mode seen t ev ns).2 ns[i]).1).Kids[j]? =some (q:Int)∧es[q]? =e.Kids[j]?;rw[k4];exact hn.2.2.2.2
/-- what the root has found so far -/
theorem wC {mode:Int} {l:List GEv} {T t:Int} {ev:Option Int} {seen:Int} {es:List GEx} {ns:List GNode} {x:GEx} (h1:1≤ns.length) (hx:es[ns.length-1]? =some x)
  (h:∀(i:Nat) (n:GNode) (e:GEx),ns[i]? =some n→es[i]? =some e→bf mode l t e=bf mode l T e++(aA mode seen t ev ns).2.getD i []):bf mode l t x=bf mode l T x++ft (aA mode seen t ev ns).2:=by
 have pl:=dS mode seen t ev ns
 rw[h (ns.length-1) _ x (List.getElem?_eq_getElem (by omega)) hx]
 unfold ft
 rw[List.getLast?_eq_getElem?,pl.2,List.getD_eq_getElem?_getD]
theorem wt {mode:Int} {l:List GEv} (hl:l.Pairwise fun a b=>a.At<b.At) {before:Int} (hb:before≤1000) {seen:Int} (hs:0≤seen∧seen≤23) {es:List GEx} {x:GEx}:∀(f:Nat) (ns:List GNode) (out:List GOcc) (T:Int),eO T es ns→mF mode l T es ns→es[ns.length-1]? =some x→0≤T→T<before→(before-T).toNat≤f→
  (∀u t,T≤u→u<t→t<before→ln l u t none seen)→
  ((bW mode seen before f ns out).2.1=true→mV mode l es before)∧
  ((bW mode seen before f ns out).2.1=false→∃T' X,T≤T'∧T'<before∧eO T' es (bW mode seen before f ns out).1∧mF mode l T' es (bW mode seen before f ns out).1∧(∀n∈(bW mode seen before f ns out).1,∀o∈n.Due,before≤o.To)∧
   (bW mode seen before f ns out).1.length=ns.length∧(bW mode seen before f ns out).2.2=out++X∧bf mode l T' x=bf mode l T x++X)
 |0,ns,out,T,h,_,_,_,hT,hf,_=>by omega
 |f+1,ns,out,T,h,hH,hx,h0,hT,hf,hev=>by
  have nl:=lu ns before
  unfold bW
  by_cases hlt:bt ns before<before
  ·rw[if_pos hlt]
   have hT':T<bt ns before:=by
    rcases lp ns before with q|⟨n,q1,o,q2,q3⟩
    ·omega
    ·rw[q3];exact((h.2.2 n q1).2.2.2.1 o q2).1
   obtain⟨g1,g2⟩:=um (mode:=mode) hl hT' (by omega) hs (hev T (bt ns before) (Int.le_refl _) hT' hlt) h hH nl.2
   have pl:=dS mode seen (bt ns before) none ns
   have rg:=wC h.2.1.1 hx g1
   by_cases hfu:cI (aA mode seen (bt ns before) none ns).1=true
   ·rw[if_pos hfu]
    refine⟨fun _=>?_,fun q=>by simp at q⟩
    obtain⟨e,he,q⟩:=wL (wA h.1) g2 hfu
    exact⟨e,he,_,Int.le_of_lt hlt,q⟩
   ·rw[if_neg hfu]
    have hfu':cI (aA mode seen (bt ns before) none ns).1=false:=by simpa using hfu
    have pi:=ja (mode:=mode) (ev:=none) h (Int.le_of_lt hT') nl.2 hs hfu'
    obtain⟨a,b⟩:=wt hl hb hs f _ (out++ft (aA mode seen (bt ns before) none ns).2) (bt ns before) pi g2 (by rw[pl.1];exact hx) (by omega) hlt (by omega) (fun u t h1 h2 h3=>hev u t (by omega) h2 h3)
    refine⟨a,fun q=>?_⟩
    obtain⟨T',X,c1,c2,c3,c4,c5,c6,c7,c8⟩:=b q
    exact⟨T',ft (aA mode seen (bt ns before) none ns).2++X,by omega,c2,c3,c4,c5,by rw[c6,pl.1],by rw[c7,List.append_assoc],by rw[c8,rg,List.append_assoc]⟩
  ·rw[if_neg hlt]
   exact⟨fun q=>by simp at q,fun _=>⟨T,[],Int.le_refl _,hT,h,hH,fun n hn o ho=>by have:=nl.2 n hn o ho;omega,rfl,by simp,by simp⟩⟩
theorem BW {mode:Int} {l:List GEv} (hl:l.Pairwise fun a b=>a.At<b.At) {e:GEv} {seen:Int} (hs:0≤seen∧seen≤23) {es:List GEx} {x:GEx} {ns:List GNode} {T:Int} (h:eO T es ns) (hH:mF mode l T es ns) (hx:es[ns.length-1]? =some x) (hT:0≤T∧T<e.At∧e.At≤1000)
  (hev:∀u t,T≤u→u<t→t<e.At→ln l u t none seen) (hev':∀u,T≤u→u<e.At→ln l u e.At (some e.Sym) seen) :
  (ir mode seen ns e=none→mV mode l es e.At)∧
  ∀r,ir mode seen ns e=some r→eO e.At es r.1∧mF mode l e.At es r.1∧r.1.length=ns.length∧bf mode l e.At x=bf mode l T x++r.2:=by
 obtain⟨a,b⟩:=wt hl hT.2.2 hs 1001 ns [] T h hH hx hT.1 hT.2.1 (by omega) hev
 unfold ir
 by_cases h1:(bW mode seen e.At 1001 ns []).2.1=true
 ·rw[if_pos h1]
  exact⟨fun _=>a h1,fun r hr=>by cases hr⟩
 rw[if_neg h1]
 obtain⟨T',X,c1,c2,c3,c4,c5,c6,c7,c8⟩:=b (by simpa using h1)
 obtain⟨g1,g2⟩:=um (mode:=mode) hl c2 (by omega) hs (hev' T' c1 c2) c3 c4 c5
 have pl:=dS mode seen e.At (some e.Sym) (bW mode seen e.At 1001 ns []).1
 have rg:=wC (c3.2.1.1) (by rw[c6];exact hx) g1
 by_cases h2:cI (aA mode seen e.At (some e.Sym) (bW mode seen e.At 1001 ns []).1).1=true
 ·rw[if_pos h2]
  refine⟨fun _=>?_,fun r hr=>by cases hr⟩
  obtain⟨z,hz,q⟩:=wL (wA c3.1) g2 h2
  exact⟨z,hz,_,Int.le_refl _,q⟩
 rw[if_neg h2]
 refine⟨(fun q=>absurd q (by simp)),fun r hr=>?_⟩
 cases hr
 have h2':cI (aA mode seen e.At (some e.Sym) (bW mode seen e.At 1001 ns []).1).1=false:=by simpa using h2
 exact⟨ja c3 (Int.le_of_lt c2) c5 hs h2',g2,by dsimp only;rw[pl.1,c6],by dsimp only;rw[rg,c8,c7,List.nil_append,List.append_assoc]⟩
theorem ui {sym:Int} {e:GEv}:∀{l:List GEv} {i j:Nat},l[j]? =some e→e.Sym=sym→(⟨e.At,e.At,[((i+j:Nat):Int)]⟩:GOcc)∈bY sym i l
 |[],i,j,h,_=>by simp at h
 |d::l,i,0,h,hs=>by
  rw[List.getElem?_cons_zero] at h
  cases h
  unfold bY
  rw[if_pos hs];simp
 |d::l,i,j+1,h,hs=>by
  rw[List.getElem?_cons_succ] at h
  have:=ui (i:=i+1) h hs
  unfold bY
  rw[show i+(j+1)=i+1+j by omega]
  split
  ·exact List.mem_cons_of_mem _ this
  ·exact this
theorem zp {l:List GEv} (hl:l.Pairwise fun a b=>a.At<b.At) {u t:Int} (hut:u<t) {seen:Int} (h:∀e∈l,e.At≤u∨t<e.At):ln l u t none seen:=fun s=>by
 rw[ki (gB hl) (Int.le_of_lt hut),if_neg (by simp)]
 congr 1
 refine List.filter_eq_nil_iff.2 fun o ho=>?_
 obtain⟨j,e,h1,_,rfl⟩:=iB ho
 have:=h e (List.mem_of_getElem? h1)
 simp only[Bool.and_eq_true,decide_eq_true_eq];omega
theorem yj {l:List GEv} (hl:l.Pairwise fun a b=>a.At<b.At) {u:Int} {p:Nat} {e:GEv} (hp:l[p]? =some e) (hu:u<e.At) (h:∀j d,l[j]? =some d→j<p→d.At≤u):ln l u e.At (some e.Sym) (p:Int):=fun s=>by
 have after:∀j d,l[j]? =some d→p<j→e.At<d.At:=fun j d hj hpj=>by
  obtain⟨hp1,hp2⟩:=List.getElem?_eq_some_iff.1 hp
  obtain⟨hj1,hj2⟩:=List.getElem?_eq_some_iff.1 hj
  have:=List.pairwise_iff_getElem.1 hl p j hp1 hj1 hpj
  rw[hp2,hj2] at this
  exact this
 rw[ki (gB hl) (Int.le_of_lt hu)]
 congr 1
 refine j7 (kR (gB hl)) (by split <;> simp[Asc]) fun o=>?_
 rw[List.mem_filter]
 simp only[Bool.and_eq_true,decide_eq_true_eq]
 constructor
 ·rintro⟨ho,h1,h2⟩
  obtain⟨j,d,hj,hs,rfl⟩:=iB ho
  have h1:u<d.At:=h1
  have h2:d.At≤e.At:=h2
  have hjp:j=p:=by
   rcases Nat.lt_trichotomy j p with q|q|q
   ·have:=h j d hj q;omega
   ·exact q
   ·have:=after j d hj q;omega
  subst hjp
  rw[hp] at hj;cases hj
  rw[if_pos (by rw[hs])]
  simp
 ·intro ho
  split at ho
  ·rename_i hs
   rw[List.mem_singleton.1 ho]
   have:=ui (i:=0) hp (Option.some.inj hs)
   rw[Nat.zero_add] at this
   exact⟨this,hu,Int.le_refl _⟩
  ·simp at ho
theorem mV.mono {mode:Int} {l:List GEv} {es:List GEx} {a b:Int} (h:mV mode l es a) (hab:a≤b):mV mode l es b:=by
 obtain⟨e,he,T,hT,q⟩:=h
 exact⟨e,he,T,by omega,q⟩
theorem Ci {mode:Int} {l:List GEv} (h:jr l) {es:List GEx} {x:GEx} (hfx:∀e∈es,bx e=true):∀(d i:Nat) (ns:List GNode) (T:Int),i+d=l.length→eO T es ns→mF mode l T es ns→es[ns.length-1]? =some x→0≤T→(∀j e,l[j]? =some e→j<i→e.At≤T)→(∀j e,l[j]? =some e→i≤j→T<e.At)→T≤eM l→(d=0→T=eM l)→
  (gN mode (l.drop i) (i:Int) ns (bf mode l T x)=none→mV mode l es (eM l))∧∀r,gN mode (l.drop i) (i:Int) ns (bf mode l T x)=some r→r=bf mode l (eM l) x∧∀e∈es,(bf mode l (eM l) e).length≤40:=by
 intro d
 induction d with
 |zero=>
  intro i ns T hi hG hH hx h0 hlow hhigh hTe hd
  have hT:=hd rfl
  rw[List.drop_eq_nil_of_le (by omega)]
  refine⟨fun q=>by simp[gN] at q,fun r hr=>?_⟩
  simp only[gN,Option.some.injEq] at hr
  refine⟨by rw[←hr,hT],fun e he=>?_⟩
  obtain⟨q,hq⟩:=List.mem_iff_getElem?.1 he
  have hql:q<ns.length:=by have:=(List.getElem?_eq_some_iff.1 hq).1;rw[hG.1.1] at this;exact this
  have hn:=List.getElem?_eq_getElem hql
  have:=(hH q _ e hn hq).many
  have:=(hG.2.2 _ (List.getElem_mem hql)).2.1.2
  rw[hT] at *
  omega
 |succ d ih=>
  intro i ns T hi hG hH hx h0 hlow hhigh hTe hd
  have hii:i<l.length:=by omega
  have hget:=List.getElem?_eq_getElem hii
  have hm:=List.getElem_mem hii
  have he:=h.2.1 _ hm
  have hTi:=hhigh i _ hget (Nat.le_refl _)
  have h24:=h.2.2
  rw[List.drop_eq_getElem_cons hii]
  unfold gN
  obtain⟨a,b⟩:=BW (mode:=mode) h.1 (e:=l[i]) (seen:=(i:Int)) (by omega) hG hH hx ⟨h0,hTi,he.2⟩ (fun u t h1 h2 h3=>zp h.1 h2 fun z hz=>by
    obtain⟨j,hj⟩:=List.mem_iff_getElem?.1 hz
    rcases Nat.lt_or_ge j i with q|q
    ·have:=hlow j z hj q;omega
    ·rcases Nat.lt_or_ge i j with w|w
     ·obtain⟨hj1,hj2⟩:=List.getElem?_eq_some_iff.1 hj
      have:=List.pairwise_iff_getElem.1 h.1 i j hii hj1 w
      rw[hj2] at this;omega
     ·have:j=i:=by omega
      subst this
      rw[hget] at hj;cases hj
      omega) (fun u h1 h2=>yj h.1 hget h2 fun j z hj q=>by have:=hlow j z hj q;omega)
  have hend:=Am h _ hm
  cases hst:ir mode (i:Int) ns l[i] with
  |none=>
   exact⟨fun _=>(a hst).mono hend,fun r hr=>by cases hr⟩
  |some r=>
   obtain⟨c1,c2,c3,c4⟩:=b r hst
   dsimp only
   have hxf:bx x=true:=hfx x (List.mem_of_getElem? hx)
   have hmr:bd (bf mode l T x) r.2=bf mode l l[i].At x:=by
    rw[c4]
    exact kL _ _ (by rw[←c4];exact sd h.1 _ _)
   rw[hmr,show(i:Int)+1=((i+1:Nat):Int) by omega]
   refine ih (i+1) r.1 l[i].At (by omega) c1 c2 (by rw[c3];exact hx) (by omega) (fun j z hj q=>?_) (fun j z hj q=>?_) hend (fun q=>?_)
   ·rcases Nat.lt_or_ge j i with w|w
    ·have:=hlow j z hj w;omega
    ·have:j=i:=by omega
     subst this
     rw[hget] at hj;cases hj
     exact Int.le_refl _
   ·obtain⟨hj1,hj2⟩:=List.getElem?_eq_some_iff.1 hj
    have:=List.pairwise_iff_getElem.1 h.1 i j hii hj1 (by omega)
    rw[hj2] at this;exact this
   ·have:i=l.length-1:=by omega
    unfold eM
    rw[List.getLast?_eq_getElem?,←this,hget]
theorem tu {mode:Int} {l:List GEv} (h:jr l):∀x:GEx,bf mode l 0 x=[]:=by
 refine eC fun x ih=>?_
 rw[mW]
 have K:∀j,(x.Kids.map (bf mode l 0)).getD j []=[]:=fun j=>by
  rcases nt (bf mode l 0) x.Kids j with⟨y,hy,e⟩|e
  ·rw[e];exact ih y hy
  ·exact e
 have t2:bC [([]:List GOcc),[]]=[]:=List.eq_nil_iff_forall_not_mem.2 fun u hu=>by
  obtain⟨_,l,hl,o,ho,_⟩:=eG.1 hu
  simp only[List.mem_cons,List.not_mem_nil,or_false,or_self] at hl
  subst hl;simp at ho
 have t3:bC [([]:List GOcc),[],[]]=[]:=List.eq_nil_iff_forall_not_mem.2 fun u hu=>by
  obtain⟨_,l,hl,o,ho,_⟩:=eG.1 hu
  simp only[List.mem_cons,List.not_mem_nil,or_false,or_self] at hl
  subst hl;simp at ho
 split
 ·refine DF fun o ho=>?_
  obtain⟨j,e,h1,_,rfl⟩:=iB ho
  have:=h.2.1 e (List.mem_of_getElem? h1)
  dsimp only;omega
 unfold gv
 rw[K 0,K 1,K 2]
 repeat' split
 ·rfl
 ·unfold fG;rw[t2];rfl
 ·unfold fG;rw[t2];rfl
 ·unfold fH;rw[t3];rfl
 ·unfold fH;rw[t3];rfl
 ·rfl
theorem fi {mode:Int} {l:List GEv} (h:jr l) (e:GEx) (j:Nat):bo mode l 0 e j=[]:=by
 unfold bo
 rcases nt (bf mode l 0) e.Kids j with⟨y,hy,q⟩|q
 ·rw[q];exact tu h y
 ·exact q
theorem Cv {mode:Int} {l:List GEv} (h:jr l) {es:List GEx} {ns:List GNode} (hf:∀n∈ns,xE n):mF mode l 0 es ns:=fun i n e hn he=>by
 obtain⟨f1,f2,f3,f4⟩:=hf n (List.mem_of_getElem? hn)
 have t2:∀f,stP f [] []=([],[]):=fun f=>by
  unfold stP
  rw[show bC [([]:List GOcc),[]]=[] from List.eq_nil_iff_forall_not_mem.2 fun u hu=>by
   obtain⟨_,l,hl,o,ho,_⟩:=eG.1 hu
   simp only[List.mem_cons,List.not_mem_nil,or_false,or_self] at hl
   subst hl;simp at ho];rfl
 have t3:∀f,stS f [] [] []=([],[]):=fun f=>by
  unfold stS
  rw[show bC [([]:List GOcc),[],[]]=[] from List.eq_nil_iff_forall_not_mem.2 fun u hu=>by
   obtain⟨_,l,hl,o,ho,_⟩:=eG.1 hu
   simp only[List.mem_cons,List.not_mem_nil,or_false,or_self] at hl
   subst hl;simp at ho];rfl
 refine⟨by rw[f4,tu h];rfl,fun _=>?_,fun _=>?_,fun _=>?_,fun _=>?_,fun _=>?_⟩
 ·rw[f1,fi h,fi h,t2]
 ·rw[f1,fi h,fi h,t2]
 ·rw[f2,fi h,fi h,fi h,t3]
 ·rw[f2,fi h,fi h,fi h,t3]
 ·rw[f3,fi h];rfl
/-- online detection equals the declarative meaning -/
theorem AX (x:GEx) (mode:Int) (l:List GEv):ka x mode l=kN x mode l:=by
 unfold ka kN
 by_cases hc:jB x=true∧(0≤mode∧mode≤4)∧gL l=true
 rotate_left
 ·rw[if_neg hc,if_neg hc]
 rw[if_pos hc,if_pos hc]
 have hf:=iW hc.1
 have hu:=pr hc.2.2
 obtain⟨es,hG,hsub,hroot,hfresh⟩:=BM (x:=x) ⟨hf.2,hf.1⟩
 have hfe:∀e∈es,bx e=true:=fun e he=>we x hf.2 e (hsub e he)
 have hE:0≤eM l:=by
  unfold eM
  cases hq:l.getLast? with
  |none=>simp
  |some z=>have:=hu.2.1 z (List.mem_of_getLast? hq);dsimp only;omega
 obtain⟨a,b⟩:=Ci (mode:=mode) hu hfe l.length 0 (cW x []).2 0 (by omega) hG (Cv hu hfresh) hroot (Int.le_refl _) (fun j e _ q=>by omega) (fun j e hj _=>by have:=hu.2.1 e (List.mem_of_getElem? hj);omega) hE (fun q=>by
  have:l=[]:=List.length_eq_zero_iff.1 q
  rw[this];rfl)
 rw[tu hu,show((0:Nat):Int)=0 from rfl,List.drop_zero] at a b
 obtain⟨m1,m2⟩:=Dv (mode:=mode) hu x hf.2
 cases hg:gN mode l 0 (cW x []).2 [] with
 |none=>
  dsimp only
  rw[m2]
  obtain⟨e,he,T,hT,q⟩:=a hg
  intro fine
  have h1:=EX (mode:=mode) hu.1 hT (hfe e he)
  have h2:=fine e (hsub e he)
  omega
 |some r=>
  dsimp only
  obtain⟨r1,r2⟩:=b r hg
  rw[m1 (fun y hy=>r2 y (DW hG.1 x (List.mem_of_getElem? hroot) y hy)),r1]
def fb (kd sy:Int):List UInt8:=if kd=1 then[UInt8.ofNat (97+sy).toNat] else if kd=2 then[111,114] else if kd=3 then[97,110,100] else if kd=4 then[115,101,113] else if kd=5 then[110,111,116] else if kd=6 then[101,97,99,104] else[112,108,117,115]
def iZ (n:Int):List UInt8:=if n<10 then[UInt8.ofNat (48+n).toNat] else[UInt8.ofNat (48+n / 10).toNat,UInt8.ofNat (48+n % 10).toNat]
mutual
def eY:GEx→List UInt8
 |⟨kd,sy,n,ks⟩=>fb kd sy++((if kd=7 then 32::iZ n else[])++cA ks)
def cA:List GEx→List UInt8
 |[]=>[]
 |x::xs=>32::(eY x++cA xs)
end
theorem iX (x:GEx):eY x=fb x.Kind x.Sym++((if x.Kind=7 then 32::iZ x.N else[])++cA x.Kids):=by
 obtain⟨a,b,c,d⟩:=x
 simp only[eY]
theorem BC (s:Int) (h:1≤s∧s≤7):∃m:Fin 8,s=(m.val:Int)∧1≤m.val:=⟨⟨s.toNat,by omega⟩,by show s=(s.toNat:Int);omega,by show 1≤s.toNat;omega⟩
theorem xK (s:Int) (h:0≤s∧s<5):∃m:Fin 5,s=(m.val:Int):=⟨⟨s.toNat,by omega⟩,by show s=(s.toNat:Int);omega⟩
theorem yh {kd sy:Int} (h:1≤kd∧kd≤7) (hs:0≤sy∧sy<5):∀b∈fb kd sy,b≠32:=by
 obtain⟨m,rfl,_⟩:=BC kd h
 obtain⟨s,rfl⟩:=xK sy hs
 have key:∀(a:Fin 8) (b:Fin 5),∀c∈fb (a.val:Int) (b.val:Int),c≠32:=by decide +kernel
 exact key m s
theorem DE {kd sy kd' sy':Int} (h:1≤kd∧kd≤7) (hs:0≤sy∧sy<5) (h':1≤kd'∧kd'≤7) (hs':0≤sy'∧sy'<5) (e:fb kd sy=fb kd' sy'):kd=kd'∧(kd=1→sy=sy'):=by
 obtain⟨m,rfl,g⟩:=BC kd h
 obtain⟨s,rfl⟩:=xK sy hs
 obtain⟨m',rfl,g'⟩:=BC kd' h'
 obtain⟨s',rfl⟩:=xK sy' hs'
 have key:∀(a b:Fin 8) (s t:Fin 5),((decide (1≤a.val)&&(decide (1≤b.val)&&(fb (a.val:Int) (s.val:Int)==fb (b.val:Int) (t.val:Int))))&& !(decide (a=b)&&(!decide (a.val=1)||decide (s=t))))=false:=by decide +kernel
 have:=key m m' s s'
 rw[decide_eq_true g,decide_eq_true g',e,beq_self_eq_true] at this
 simp only[Bool.true_and,Bool.not_eq_false',Bool.and_eq_true,decide_eq_true_eq,Bool.or_eq_true,Bool.not_eq_true',decide_eq_false_iff_not] at this
 obtain⟨k1,k2⟩:=this
 refine⟨by rw[k1],fun q=>?_⟩
 rcases k2 with k2|k2
 ·omega
 ·rw[k2]
theorem yw (n:Int) (h:1≤n∧n≤20):∃m:Fin 21,n=(m.val:Int):=⟨⟨n.toNat,by omega⟩,by show n=(n.toNat:Int);omega⟩
theorem Ev {n n':Int} (h:1≤n∧n≤20) (h':1≤n'∧n'≤20) (e:iZ n=iZ n'):n=n':=by
 obtain⟨m,rfl⟩:=yw n h
 obtain⟨m',rfl⟩:=yw n' h'
 have key:∀a b:Fin 21,iZ (a.val:Int)=iZ (b.val:Int)→a=b:=by decide +kernel
 rw[key m m' e]
theorem wq {n:Int} (h:1≤n∧n≤20):∀b∈iZ n,b≠32:=by
 obtain⟨m,rfl⟩:=yw n h
 have key:∀a:Fin 21,∀b∈iZ (a.val:Int),b≠32:=by decide +kernel
 exact key m
/-- what follows a word: nothing, or a blank -/
def jz (r:List UInt8):Prop:=r=[]∨∃t,r=32::t
theorem uI {w w' r r':List UInt8} (hw:∀b∈w,b≠32) (hw':∀b∈w',b≠32) (hr:jz r) (hr':jz r') (e:w++r=w'++r'):w=w'∧r=r':=by
 have tk:∀{v s:List UInt8},(∀b∈v,b≠32)→jz s→(v++s).takeWhile (·!=32)=v:=fun{v s} hv hs=>by
  induction v with
  |nil=>rcases hs with rfl|⟨t,rfl⟩ <;> rfl
  |cons b v ih=>
   rw[List.cons_append,List.takeWhile_cons_of_pos (by simpa using hv b (by simp)),ih (fun c hc=>hv c (by simp[hc]))]
 have h1:=tk hw hr
 rw[e,tk hw' hr'] at h1
 subst h1
 exact⟨rfl,List.append_cancel_left e⟩
theorem kz {xs:List GEx} {r:List UInt8} (h:jz r):jz (cA xs++r):=by
 cases xs with
 |nil=>simpa [cA] using h
 |cons x xs=>exact .inr ⟨eY x++cA xs++r,by simp only[cA,List.cons_append]⟩
theorem yp:∀{xs ys:List GEx} {r r':List UInt8},xs.length=ys.length→(∀x∈xs,∀y∈ys,∀r r',jz r→jz r'→eY x++r=eY y++r'→x=y∧r=r')→jz r→jz r'→cA xs++r=cA ys++r'→xs=ys∧r=r'
 |[],[],r,r',_,_,_,_,e=>⟨rfl,by simpa [cA] using e⟩
 |[],_::_,_,_,h,_,_,_,_=>by simp at h
 |_::_,[],_,_,h,_,_,_,_=>by simp at h
 |x::xs,y::ys,r,r',hl,H,hr,hr',e=>by
  simp only[cA,List.cons_append,List.append_assoc,List.cons.injEq,true_and] at e
  obtain⟨e1,e2⟩:=H x (by simp) y (by simp) _ _ (kz hr) (kz hr') e
  obtain⟨e3,e4⟩:=yp (by simpa using hl) (fun a ha b hb=>H a (by simp[ha]) b (by simp[hb])) hr hr' e2
  exact⟨by rw[e1,e3],e4⟩
theorem m6 {e:GEx} (h:gV e=true):(1≤e.Kind∧e.Kind≤7)∧(0≤e.Sym∧e.Sym<5)∧(e.Kind≠1→e.Sym=0)∧(e.Kind≠7→e.N=0)∧(e.Kind=7→1≤e.N∧e.N≤20)∧(e.Kids.length:Int)=gK e.Kind:=by
 have rng:1≤e.Kind∧e.Kind≤7:=by
  rcases dY h with q|q|q|q|q|q|q
  all_goals omega
 unfold gV at h
 simp only[Bool.and_eq_true,decide_eq_true_eq,Bool.or_eq_true] at h
 obtain⟨⟨⟨⟨hk1,hs1⟩,hs2⟩,hs3⟩,hN⟩:=h
 refine⟨rng,by omega,fun q=>by omega,fun q=>?_,fun q=>?_,by omega⟩
 ·rw[if_neg q] at hN;simpa using hN
 ·rw[if_pos q] at hN;simp only[Bool.and_eq_true,decide_eq_true_eq] at hN;omega
theorem DA:∀x:GEx,bx x=true→∀y:GEx,bx y=true→∀r r',jz r→jz r'→eY x++r=eY y++r'→x=y∧r=r':=by
 refine eC fun x ih hx y hy r r' hr hr' e=>?_
 obtain⟨x1,x2,x3,x4,x5,x6⟩:=m6 (bP hx).1
 obtain⟨y1,y2,y3,y4,y5,y6⟩:=m6 (bP hy).1
 rw[iX x,iX y,List.append_assoc (fb x.Kind x.Sym),List.append_assoc (fb y.Kind y.Sym)] at e
 have st:∀(z:GEx) (s:List UInt8),jz s→jz (((if z.Kind=7 then 32::iZ z.N else[])++cA z.Kids)++s):=fun z s hs=>by
  split
  ·exact .inr ⟨_,rfl⟩
  ·rw[List.nil_append];exact kz hs
 obtain⟨e1,e2⟩:=uI (yh x1 x2) (yh y1 y2) (st x r hr) (st y r' hr') e
 obtain⟨k1,k2⟩:=DE x1 x2 y1 y2 e1
 have hsym:x.Sym=y.Sym:=by
  by_cases h1:x.Kind=1
  ·exact k2 h1
  ·rw[x3 h1,y3 (by omega)]
 have hlen:x.Kids.length=y.Kids.length:=by
  have:gK x.Kind=gK y.Kind:=by rw[k1]
  omega
 have fin:cA x.Kids++r=cA y.Kids++r'→x.N=y.N→x=y∧r=r':=fun q hn=>by
  obtain⟨f1,f2⟩:=yp hlen (fun a ha b hb=>ih a ha ((bP hx).2 a ha) b ((bP hy).2 b hb)) hr hr' q
  exact⟨ut k1 hsym hn f1,f2⟩
 by_cases h7:x.Kind=7
 ·rw[if_pos h7,if_pos (by omega)] at e2
  simp only[List.cons_append,List.append_assoc,List.cons.injEq,true_and] at e2
  obtain⟨d1,d2⟩:=uI (wq (x5 h7)) (wq (y5 (by omega))) (kz hr) (kz hr') e2
  exact fin d2 (Ev (x5 h7) (y5 (by omega)) d1)
 ·rw[if_neg h7,if_neg (by omega),List.nil_append,List.nil_append] at e2
  exact fin e2 (by rw[x4 h7,y4 (by omega)])
theorem CY {x y:GEx} (hx:bx x=true) (hy:bx y=true):eY x=eY y↔x=y:=by
 constructor
 ·intro e
  exact(DA x hx y hy [] [] (.inl rfl) (.inl rfl) (by rw[e])).1
 ·rintro rfl;rfl
def bl (s:ByteArray):List UInt8:=s.data.toList
theorem gz (s:ByteArray):s.size=(bl s).length:=by unfold bl;rw[Array.length_toList];rfl
theorem jf (a b:ByteArray):bl (a++b)=bl a++bl b:=by unfold bl;rw[ByteArray.data_append,Array.toList_append]
theorem Cp (a b:ByteArray):pe a b=(bl a==bl b):=by unfold pe bl;rw[ByteArray.toList_eq,ByteArray.toList_eq]
theorem wr8 (x:Int) (h:0≤x∧x<256):IntKind.wrap .u8 x=x:=by
 show x % 256=x
 exact Int.emod_eq_of_lt h.1 h.2
theorem vj (d:Int) (h:0≤d∧d≤9):bl (Vm.byte1 (IntKind.wrap .u8 (IntKind.wrap .i64 (48+d))))=[UInt8.ofNat (48+d).toNat]:=by
 rw[wr _ (by omega),wr8 _ (by omega)]
 rfl
theorem dec_k (k:Nat) (hk:100≤k) (n:Int) (h:1≤n∧n≤20):∃s,cO.f k n=some s∧bl s=iZ n:=by
 obtain⟨k,rfl⟩:∃m,k=m+3:=⟨k-3,by omega⟩
 rw[cO.f,if_neg (by omega),if_neg (by omega)]
 unfold iZ
 by_cases h9:9<n
 ·rw[cO.l0,if_pos h9,ru n 10 (by omega) (by omega)]
  obtain⟨q1,q2,q3⟩:=tO n 10 (by omega) (by omega)
  have b1:=vj (n % 10) (by omega)
  rw[ae (by rw[gz,b1];show 1+0≤9223372036854775807;omega),q1,cO.l0,if_neg (by omega)]
  simp only[Option.bind_some]
  have b2:=vj (n / 10) (by omega)
  rw[ae (by rw[gz,b2,gz,jf,b1];show 1+1≤9223372036854775807;omega),if_neg (by omega)]
  refine⟨_,rfl,?_⟩
  rw[jf,jf,b1,b2];rfl
 ·rw[cO.l0,if_neg h9]
  simp only[Option.bind_some]
  have b1:=vj n (by omega)
  rw[ae (by rw[gz,b1];show 1+0≤9223372036854775807;omega),if_pos (by omega)]
  refine⟨_,rfl,?_⟩
  rw[jf,b1];rfl
theorem Dy (s:Int) (h:0≤s∧s<5):∃t,iw.f s=some t∧bl t=fb 1 s:=by
 obtain⟨m,rfl⟩:=xK s h
 unfold iw.f
 rw[if_neg (by omega),if_pos (by omega),wr _ (by omega),ae (by omega),ae (by omega),ae (by show(m.val:Int)+1≤((5:Nat):Int);omega)]
 refine⟨_,rfl,?_⟩
 have key:∀a:Fin 5,bl ((⟨#[97,98,99,100,101]⟩:ByteArray).extract ((a.val:Int)).toNat ((a.val:Int)+1).toNat)=fb 1 (a.val:Int):=by decide +kernel
 exact key m
theorem Ey (kd:Int) (h:2≤kd∧kd≤7):∃ws t,ky.f=some ws∧kd<(ws.length:Nat)∧ws[kd.toNat]? =some t∧bl t=fb kd 0:=by
 have h7:kd=2∨kd=3∨kd=4∨kd=5∨kd=6∨kd=7:=by omega
 rcases h7 with rfl|rfl|rfl|rfl|rfl|rfl
 all_goals exact⟨_,_,rfl,by decide,rfl,rfl⟩
theorem zk {kd sy:Int} (h:1≤kd∧kd≤7) (hs:0≤sy∧sy<5):(fb kd sy).length≤4:=by
 obtain⟨m,rfl,_⟩:=BC kd h
 obtain⟨s,rfl⟩:=xK sy hs
 have key:∀(a:Fin 8) (b:Fin 5),(fb (a.val:Int) (b.val:Int)).length≤4:=by decide +kernel
 exact key m s
theorem Av {n:Int} (h:1≤n∧n≤20):(iZ n).length≤2:=by unfold iZ;split <;> simp
theorem ta:∀(xs ys:List GEx),cA (xs++ys)=cA xs++cA ys
 |[],ys=>by simp[cA]
 |x::xs,ys=>by simp only[List.cons_append,cA,ta xs ys,List.append_assoc]
theorem Dl {xs:List GEx} (h:∀x∈xs,(eY x).length≤16 * exN x):(cA xs).length≤xs.length+16 * cl xs:=by
 induction xs with
 |nil=>simp[cA]
 |cons x xs ih=>
  have h1:=h x (by simp)
  have h2:=ih fun y hy=>h y (by simp[hy])
  simp only[cA,List.length_cons,List.length_append,cS]
  omega
theorem DP:∀x:GEx,bx x=true→(eY x).length≤16 * exN x:=by
 refine eC fun x ih hx=>?_
 obtain⟨x1,x2,x3,x4,x5,x6⟩:=m6 (bP hx).1
 have hf:=Dl (xs:=x.Kids) fun y hy=>ih y hy ((bP hx).2 y hy)
 have hw:=zk x1 x2
 have k3:x.Kids.length≤3:=by
  have:gK x.Kind≤3:=by
   unfold gK;repeat' split
   all_goals omega
  omega
 rw[iX,List.length_append,List.length_append,cK x]
 split
 ·rename_i h7
  have:=Av (x5 h7)
  rw[List.length_cons];omega
 ·rw[List.length_nil];omega
theorem wa (xs:List GEx) (w:List UInt8) (hl:xs.length≤3) (L:Nat→ByteArray→Int→Option ByteArray) (R:GEx→Option ByteArray) (hend:∀N s,L (N+1) s (xs.length:Int)=some s)
  (hstep:∀N s i (h:i<xs.length) t,R xs[i]=some t→s.size+1+t.size≤1000000000→L (N+1) s (i:Int)=L N ((s++(⟨#[32]⟩:ByteArray))++t) ((i+1:Nat):Int))
  (hR:∀x∈xs,∃t,R x=some t∧bl t=eY x) (hs:w.length+(cA xs).length≤1000000):∀(d i N:Nat) (s:ByteArray),i+d=xs.length→d<N→bl s=w++cA (xs.take i)→∃t,L N s (i:Int)=some t∧bl t=w++cA xs:=by
 intro d
 induction d with
 |zero=>
  intro i N s hi hN hb
  obtain⟨N,rfl⟩:∃q,N=q+1:=⟨N-1,by omega⟩
  rw[show i=xs.length by omega,List.take_length] at hb
  rw[show i=xs.length by omega,hend]
  exact⟨s,rfl,hb⟩
 |succ d ih=>
  intro i N s hi hN hb
  obtain⟨N,rfl⟩:∃q,N=q+1:=⟨N-1,by omega⟩
  have hlt:i<xs.length:=by omega
  obtain⟨t,t1,t2⟩:=hR _ (List.getElem_mem hlt)
  have hsplit:cA xs=cA (xs.take i)++(32::(eY xs[i]++cA (xs.drop (i+1)))):=by
   conv=>lhs;rw[←List.take_append_drop i xs,List.drop_eq_getElem_cons hlt]
   rw[ta];simp only[cA]
  have hlen:=congrArg List.length hsplit
  simp only[List.length_append,List.length_cons] at hlen
  have hsz:s.size=w.length+(cA (xs.take i)).length:=by rw[gz,hb,List.length_append]
  have htz:t.size=(eY xs[i]).length:=by rw[gz,t2]
  rw[hstep N s i hlt t t1 (by omega)]
  refine ih (i+1) N _ (by omega) (by omega) ?_
  rw[jf,jf,hb,t2,List.take_add_one,List.getElem?_eq_getElem hlt,ta]
  show w++cA (xs.take i)++[32]++eY xs[i]=w++(cA (xs.take i)++cA [xs[i]])
  simp[cA]
theorem Fw:∀x:GEx,bx x=true→exN x≤1000→∀k:Nat,1000+exN x≤k→∃s,aS.f k x=some s∧bl s=eY x:=by
 refine eC fun x ih hx hn k hk=>?_
 obtain⟨x1,x2,x3,x4,x5,x6⟩:=m6 (bP hx).1
 have htl:=DP x hx
 obtain⟨k,rfl⟩:∃m,k=m+1:=⟨k-1,by omega⟩
 rw[aS.f]
 have hR:∀y∈x.Kids,∃t,aS.f k y=some t∧bl t=eY y:=fun y hy=>by
  have:=dQ hy
  rw[cK] at hn hk
  exact ih y hy ((bP hx).2 y hy) (by omega) k (by omega)
 have k3:x.Kids.length≤3:=by
  have:gK x.Kind≤3:=by
   unfold gK;repeat' split
   all_goals omega
  omega
 by_cases h1:x.Kind=1
 ·rw[if_pos h1]
  obtain⟨t,t1,t2⟩:=Dy x.Sym x2
  rw[t1]
  refine⟨t,rfl,?_⟩
  have hk0:x.Kids=[]:=List.length_eq_zero_iff.1 (by
   have:gK x.Kind=0:=by rw[h1];rfl
   omega)
  rw[t2,iX,h1,hk0,if_neg (by omega)]
  simp[cA]
 rw[if_neg h1]
 obtain⟨ws,wd,w1,w2,w3,w4⟩:=Ey x.Kind (by omega)
 rw[w1]
 simp only[Option.bind_some]
 rw[ae (by omega),ae w2,w3]
 simp only[Option.bind_some]
 have hsy:=x3 h1
 have hwl:=zk x1 x2
 have hws:wd.size=(fb x.Kind x.Sym).length:=by rw[gz,w4,hsy]
 by_cases h7:x.Kind=7
 ·rw[if_pos h7]
  obtain⟨dd,d1,d2⟩:=dec_k k (by omega) x.N (x5 h7)
  have hdl:=Av (x5 h7)
  have hds:dd.size=(iZ x.N).length:=by rw[gz,d2]
  rw[ae (by show wd.size+1≤_;omega),d1]
  simp only[Option.bind_some]
  have hsz:(wd++(⟨#[32]⟩:ByteArray)).size=wd.size+1:=by rw[gz,jf,List.length_append,←gz];rfl
  rw[ae (by rw[hsz];omega)]
  have hw0:bl ((wd++(⟨#[32]⟩:ByteArray))++dd)=fb x.Kind x.Sym++(32::iZ x.N):=by rw[jf,jf,w4,d2,hsy,List.append_assoc];rfl
  have hfl:(fb x.Kind x.Sym++(32::iZ x.N)).length+(cA x.Kids).length≤1000000:=by
   rw[iX,if_pos h7] at htl
   simp only[List.length_append,List.length_cons] at htl⊢
   omega
  obtain⟨t,t1,t2⟩:=wa x.Kids (fb x.Kind x.Sym++(32::iZ x.N)) k3 (aS.l0 k (aS.f k) x) (aS.f k) (fun N s=>by rw[aS.l0,if_neg (by omega)])
   (fun N s i h t ht hs=>by
    have e1:(s++(⟨#[32]⟩:ByteArray)).size=s.size+1:=by rw[gz,jf,List.length_append,←gz];rfl
    rw[aS.l0,if_pos (by omega),ae (by show s.size+1≤_;omega),ae (by omega),Int.toNat_natCast,List.getElem?_eq_getElem h]
    simp only[Option.bind_some]
    rw[ht]
    simp only[Option.bind_some]
    rw[ae (by rw[e1];omega),wrS i (by omega)]) hR hfl x.Kids.length 0 k ((wd++(⟨#[32]⟩:ByteArray))++dd) (by omega) (by omega) (by rw[hw0];simp[cA])
  rw[show((0:Nat):Int)=0 from rfl] at t1
  rw[t1]
  refine⟨t,rfl,?_⟩
  rw[t2,iX,if_pos h7,List.append_assoc]
 ·rw[if_neg h7]
  have hfl:(fb x.Kind x.Sym).length+(cA x.Kids).length≤1000000:=by
   rw[iX,if_neg h7] at htl
   simp only[List.length_append,List.length_nil] at htl⊢
   omega
  obtain⟨t,t1,t2⟩:=wa x.Kids (fb x.Kind x.Sym) k3 (aS.l1 k (aS.f k) x) (aS.f k) (fun N s=>by rw[aS.l1,if_neg (by omega)])
   (fun N s i h t ht hs=>by
    have e1:(s++(⟨#[32]⟩:ByteArray)).size=s.size+1:=by rw[gz,jf,List.length_append,←gz];rfl
    rw[aS.l1,if_pos (by omega),ae (by show s.size+1≤_;omega),ae (by omega),Int.toNat_natCast,List.getElem?_eq_getElem h]
    simp only[Option.bind_some]
    rw[ht]
    simp only[Option.bind_some]
    rw[ae (by rw[e1];omega),wrS i (by omega)]) hR hfl x.Kids.length 0 k wd (by omega) (by omega) (by rw[w4,hsy];simp[cA])
  rw[show((0:Nat):Int)=0 from rfl] at t1
  rw[t1]
  refine⟨t,rfl,?_⟩
  rw[t2,iX,if_neg h7,List.nil_append]
/-- texts beside expressions -/
def Par (es:List GEx) (T:List ByteArray):Prop:=T.length=es.length∧∀(i:Nat) (e:GEx),es[i]? =some e→∃t,T[i]? =some t∧bl t=eY e
theorem ED (k:Nat) (T:List ByteArray) (s:ByteArray) (hl:T.length≤1000):∀(d i N:Nat),i+d=T.length→d<N→(∀j,j<i→∀t,T[j]? =some t→pe t s=false)→
  (∃j:Nat,dv.l0 k T s N (i:Int)=some (.error (j:Int))∧∃t,T[j]? =some t∧pe t s=true)∨(dv.l0 k T s N (i:Int)=some (.ok ())∧∀t∈T,pe t s=false):=by
 intro d
 induction d with
 |zero=>
  intro i N hi hN hb
  obtain⟨N,rfl⟩:∃q,N=q+1:=⟨N-1,by omega⟩
  right
  rw[dv.l0,if_neg (by omega)]
  refine⟨rfl,fun t ht=>?_⟩
  obtain⟨j,hj⟩:=List.mem_iff_getElem?.1 ht
  exact hb j (by have:=(List.getElem?_eq_some_iff.1 hj).1;omega) t hj
 |succ d ih=>
  intro i N hi hN hb
  obtain⟨N,rfl⟩:∃q,N=q+1:=⟨N-1,by omega⟩
  have hlt:i<T.length:=by omega
  rw[dv.l0,if_pos (by omega),ae (by omega),Int.toNat_natCast,List.getElem?_eq_getElem hlt]
  simp only[Option.bind_some]
  by_cases hq:pe T[i] s=true
  ·rw[if_pos hq]
   exact .inl ⟨i,rfl,_,List.getElem?_eq_getElem hlt,hq⟩
  ·rw[if_neg hq,wrS i (by omega)]
   refine ih (i+1) N (by omega) (by omega) fun j hj t ht=>?_
   rcases Nat.lt_or_ge j i with w|w
   ·exact hb j w t ht
   ·have:j=i:=by omega
    subst this
    rw[List.getElem?_eq_getElem hlt] at ht
    cases ht
    simpa using hq
/-- where an expression is among others -/
theorem at_k (k:Nat) (hk:2000≤k) {es:List GEx} {T:List ByteArray} (hp:Par es T) (hl:es.length≤1000) (hf:∀e∈es,bx e=true) {x:GEx} (hx:bx x=true) {s:ByteArray} (hs:bl s=eY x) :
  (∃j:Nat,dv.f k T s=some (j:Int)∧es[j]? =some x)∨(dv.f k T s=some (-1)∧x∉es):=by
 have hT:=hp.1
 unfold dv.f
 rcases ED k T s (by omega) T.length 0 k (by omega) (by omega) (fun j hj=>by omega) with⟨j,e1,t,t1,t2⟩|⟨e1,h⟩
 ·rw[show((0:Nat):Int)=0 from rfl] at e1
  rw[e1]
  left
  refine⟨j,rfl,?_⟩
  have hj:j<es.length:=by have:=(List.getElem?_eq_some_iff.1 t1).1;omega
  obtain⟨t',p1,p2⟩:=hp.2 j _ (List.getElem?_eq_getElem hj)
  rw[t1] at p1;cases p1
  rw[Cp,p2,hs,beq_iff_eq] at t2
  rw[List.getElem?_eq_getElem hj,(CY (hf _ (List.getElem_mem hj)) hx).1 t2]
 ·rw[show((0:Nat):Int)=0 from rfl] at e1
  rw[e1]
  right
  refine⟨rfl,fun hm=>?_⟩
  obtain⟨j,hj⟩:=List.mem_iff_getElem?.1 hm
  obtain⟨t,p1,p2⟩:=hp.2 j x hj
  have:=h t (List.mem_of_getElem? p1)
  rw[Cp,p2,hs] at this
  simp at this
theorem D5 {es:List GEx} (h:es.Nodup) {x:GEx} {i j:Nat} (hi:es[i]? =some x) (hj:es[j]? =some x):i=j:=
 (List.getElem?_inj (List.getElem?_eq_some_iff.1 hi).1 h).1 (hi.trans hj.symm)
theorem uK {ns:List GNode}:∀(xs:List GEx) (qs:List Int),xs.length=qs.length→(∀(j:Nat) (y:GEx) (q:Int),xs[j]? =some y→qs[j]? =some q→cW y ns=(q,ns))→cc xs ns=(qs,ns)
 |[],[],_,_=>mh ns
 |[],_::_,h,_=>by simp at h
 |_::_,[],h,_=>by simp at h
 |x::xs,q::qs,h,H=>by
  rw[kP,H 0 x q rfl rfl,uK xs qs (by simpa using h) (fun j y q h1 h2=>H (j+1) y q (by simpa using h1) (by simpa using h2))]
theorem B4 {es:List GEx} {ns:List GNode} (h:Rep es ns) (hn:es.Nodup):∀x:GEx,∀i:Nat,es[i]? =some x→cW x ns=((i:Int),ns):=by
 refine eC fun x ih i hi=>?_
 have hil:i<ns.length:=by have:=(List.getElem?_eq_some_iff.1 hi).1;rw[h.1] at this;exact this
 obtain⟨e,he,hf,r⟩:=h.2 i _ (List.getElem?_eq_getElem hil)
 rw[hi] at he;cases he
 have ha:cc x.Kids ns=(ns[i].Kids,ns):=uK x.Kids ns[i].Kids r.2.2.2.1.symm fun j y q h1 h2=>by
  obtain⟨hj,hj'⟩:=List.getElem?_eq_some_iff.1 h1
  obtain⟨p,_,p2,p3⟩:=r.2.2.2.2 j hj
  rw[h2] at p2
  cases p2
  rw[h1] at p3
  exact ih y (List.mem_of_getElem? h1) p p3
 rw[mU,ha]
 unfold lR
 dsimp only
 have hk:∀(j:Nat) (y:GEx),x.Kids[j]? =some y→∃q:Nat,ns[i].Kids[j]? =some (q:Int)∧es[q]? =some y:=fun j y hy=>by
  obtain⟨hj,_⟩:=List.getElem?_eq_some_iff.1 hy
  obtain⟨q,_,q2,q3⟩:=r.2.2.2.2 j hj
  exact⟨q,q2,by rw[q3,hy]⟩
 cases hfi:ns.findIdx? fun m=>iO m (fy x.Kind x.Sym x.N ns[i].Kids) with
 |some j=>
  rw[List.findIdx?_eq_some_iff_getElem] at hfi
  obtain⟨hj,hkey,_⟩:=hfi
  have:=pw h r.2.2.2.1 hk hj hkey
  rw[D5 hn this hi]
 |none=>
  exfalso
  rw[List.findIdx?_eq_none_iff] at hfi
  have:=hfi _ (List.getElem_mem hil)
  have key:iO ns[i] (fy x.Kind x.Sym x.N ns[i].Kids)=true:=(qr _ _).2 ⟨r.1,r.2.1,r.2.2.1,rfl⟩
  rw[key] at this;cases this
theorem AM {es:List GEx} {x:GEx} (h:es.Nodup) (hx:x∉es):(es++[x]).Nodup:=by
 refine List.nodup_append.2 ⟨h,by simp,fun a ha b hb=>?_⟩
 rw[List.mem_singleton.1 hb]
 intro e
 subst e
 exact hx ha
theorem Dg {es:List GEx} {T:List ByteArray} {x:GEx} {s:ByteArray} (h:Par es T) (hs:bl s=eY x):Par (es++[x]) (T++[s]):=by
 refine⟨by simp[h.1],fun i e he=>?_⟩
 rcases Nat.lt_or_ge i es.length with hi|hi
 ·rw[List.getElem?_append_left hi] at he
  rw[List.getElem?_append_left (by rw[h.1];exact hi)]
  exact h.2 i e he
 ·rw[List.getElem?_append_right hi] at he
  have:i=es.length:=by
   have:=(List.getElem?_eq_some_iff.1 he).1
   simp only[List.length_singleton] at this;omega
  subst this
  rw[Nat.sub_self,List.getElem?_cons_zero] at he
  cases he
  rw[←h.1,List.getElem?_append_right (Nat.le_refl _),Nat.sub_self]
  exact⟨s,rfl,hs⟩
/-- what adding an expression gives -/
def En (k:Nat) (x:GEx):Prop:=∀(es:List GEx) (ns:List GNode) (T:List ByteArray) (m s n:Int) (f:Bool),Rep es ns→es.Nodup→Par es T→(∀e∈es,bx e=true)→es.length+exN x≤1000→
 ∃es' T',Rep (es++es') (cW x ns).2∧(es++es').Nodup∧Par (es++es') T'∧(∀e∈es',e∈gl x)∧es'.length≤exN x∧(∃q:Nat,(cW x ns).1=(q:Int)∧(es++es')[q]? =some x)∧
  cM.f k ⟨m,ns,s,n,f⟩ T x=some (⟨m,(cW x ns).2,s,n,f⟩,T',(cW x ns).1)
theorem C9 (k:Nat) (x:GEx) (hk3:x.Kids.length≤1000) (hform:∀y∈x.Kids,bx y=true) (H:∀y∈x.Kids,En k y):∀(d i N:Nat) (es:List GEx) (ns:List GNode) (T:List ByteArray) (acc:List Int) (m s n:Int) (f:Bool),i+d=x.Kids.length→d<N→acc.length=i→Rep es ns→es.Nodup→Par es T→(∀e∈es,bx e=true)→es.length+cl (x.Kids.drop i)≤1000→
  ∃es' T',Rep (es++es') (cc (x.Kids.drop i) ns).2∧(es++es').Nodup∧Par (es++es') T'∧(∀e∈es',e∈jy (x.Kids.drop i))∧es'.length≤cl (x.Kids.drop i)∧
   ((cc (x.Kids.drop i) ns).1.length=(x.Kids.drop i).length∧∀(j:Nat) (y:GEx),(x.Kids.drop i)[j]? =some y→∃q:Nat,(cc (x.Kids.drop i) ns).1[j]? =some (q:Int)∧(es++es')[q]? =some y)∧
   cM.l0 k (cM.f k) x N T m ns s n f acc (i:Int)=some (T',m,(cc (x.Kids.drop i) ns).2,s,n,f,acc++(cc (x.Kids.drop i) ns).1):=by
 intro d
 induction d with
 |zero=>
  intro i N es ns T acc m s n f hi hN ha hR hn hp hf hb
  obtain⟨N,rfl⟩:∃q,N=q+1:=⟨N-1,by omega⟩
  rw[List.drop_eq_nil_of_le (by omega),mh]
  refine⟨[],T,by rwa [List.append_nil],by rwa [List.append_nil],by rwa [List.append_nil],by simp,by simp[eS],⟨rfl,fun j y hy=>by simp at hy⟩,?_⟩
  rw[cM.l0,if_neg (by omega),List.append_nil]
 |succ d ih=>
  intro i N es ns T acc m s n f hi hN ha hR hn hp hf hb
  obtain⟨N,rfl⟩:∃q,N=q+1:=⟨N-1,by omega⟩
  have hlt:i<x.Kids.length:=by omega
  have hm:=List.getElem_mem hlt
  rw[List.drop_eq_getElem_cons hlt] at hb⊢
  rw[cS] at hb
  obtain⟨e1,T1,a1,a2,a3,a4,a5,⟨q,a6,a7⟩,a8⟩:=H _ hm es ns T m s n f hR hn hp hf (by omega)
  have hf1:∀e∈es++e1,bx e=true:=fun e he=>(List.mem_append.1 he).elim (hf e) fun w=>we _ (hform _ hm) e (a4 e w)
  obtain⟨e2,T2,b1,b2,b3,b4,b5,⟨b6,b7⟩,b8⟩:=ih (i+1) N (es++e1) (cW x.Kids[i] ns).2 T1 (acc++[(cW x.Kids[i] ns).1]) m s n f (by omega) (by omega) (by rw[List.length_append,List.length_singleton];omega) a1 a2 a3 hf1 (by rw[List.length_append];omega)
  rw[kP]
  dsimp only
  refine⟨e1++e2,T2,by rw[←List.append_assoc];exact b1,by rw[←List.append_assoc];exact b2,by rw[←List.append_assoc];exact b3,fun e he=>?_,by rw[List.length_append,cS];omega,⟨by rw[List.length_cons,List.length_cons,b6],fun j y hj=>?_⟩,?_⟩
  ·simp only[jy,List.mem_append]
   exact(List.mem_append.1 he).elim (fun w=>.inl (a4 e w)) fun w=>.inr (b4 e w)
  ·rw[←List.append_assoc]
   cases j with
   |zero=>
    simp only[List.getElem?_cons_zero,Option.some.injEq] at hj
    subst hj
    exact⟨q,by rw[List.getElem?_cons_zero,a6],oR a7⟩
   |succ j=>
    rw[List.getElem?_cons_succ] at hj⊢
    exact b7 j y hj
  ·rw[cM.l0,if_pos (by omega),ae (by omega),Int.toNat_natCast,List.getElem?_eq_getElem hlt]
   simp only[Option.bind_some]
   rw[a8]
   simp only[Option.bind_some]
   rw[ae (by omega),wrS i (by omega),b8,List.append_assoc]
   rfl
theorem Ez:∀x:GEx,eP x→∀k:Nat,3000+exN x≤k→En k x:=by
 refine eC fun x ih hx k hk es ns T m s n f hR hn hp hf hb=>?_
 obtain⟨k,rfl⟩:∃q,k=q+1:=⟨k-1,by omega⟩
 have h12:=hx.2
 obtain⟨t,t1,t2⟩:=Fw x hx.1 (by omega) k (by omega)
 rw[cM.f,t1]
 simp only[Option.bind_some]
 rcases at_k k (by omega) hp (by omega) hf hx.1 t2 with⟨j,j1,j2⟩|⟨j1,j2⟩
 ·rw[j1]
  simp only[Option.bind_some]
  rw[if_neg (by omega),B4 hR hn x j j2]
  exact⟨[],T,by rwa [List.append_nil],by rwa [List.append_nil],by rwa [List.append_nil],by simp,by simp,⟨j,rfl,by rwa [List.append_nil]⟩,rfl⟩
 ·rw[j1]
  simp only[Option.bind_some]
  rw[if_pos (by decide)]
  have hkl:=ga x.Kids
  have hxe:=cK x
  obtain⟨e1,T1,a1,a2,a3,a4,a5,⟨a6,a7⟩,a8⟩:=C9 k x (by omega) (bP hx.1).2 (fun y hy=>ih y hy (hx.kid hy) k (by have:=dQ hy;omega)) x.Kids.length 0 k es ns T [] m s n f (by omega) (by omega) rfl hR hn hp hf (by rw[List.drop_zero];omega)
  rw[List.drop_zero] at a1 a4 a5 a6 a7 a8
  rw[show((0:Nat):Int)=0 from rfl] at a8
  rw[a8]
  simp only[Option.bind_some,List.nil_append]
  have hnot:x∉es++e1:=fun hm=>by
   rcases List.mem_append.1 hm with w|w
   ·exact j2 w
   ·obtain⟨z,hz,q⟩:=jn.1 (a4 x w)
    have:=xG z x q
    have:=dQ hz
    omega
  have hplace:cW x ns=(((cc x.Kids ns).2.length:Int),(cc x.Kids ns).2++[fy x.Kind x.Sym x.N (cc x.Kids ns).1]):=by
   rw[mU]
   unfold lR
   cases hfi:(cc x.Kids ns).2.findIdx? fun q=>iO q (fy x.Kind x.Sym x.N (cc x.Kids ns).1) with
   |none=>rfl
   |some i=>
    exfalso
    rw[List.findIdx?_eq_some_iff_getElem] at hfi
    obtain⟨hi,hkey,_⟩:=hfi
    exact hnot (List.mem_of_getElem? (pw a1 a6 a7 hi hkey))
  have hlen1:=a1.1
  have hT1:=a3.1
  rw[List.length_append] at hlen1 hT1
  rw[ae (by omega),ae (by omega),hplace]
  refine⟨e1++[x],T1++[t],?_,?_,?_,fun e he=>?_,by rw[List.length_append,List.length_singleton];omega,⟨(cc x.Kids ns).2.length,rfl,?_⟩,?_⟩
  ·rw[←List.append_assoc];exact tE hx a1 a6 a7
  ·rw[←List.append_assoc];exact AM a2 hnot
  ·rw[←List.append_assoc];exact Dg a3 t2
  ·rcases List.mem_append.1 he with w|w
   ·obtain⟨z,hz,q⟩:=jn.1 (a4 e w)
    exact eX.2 (.inr ⟨z,hz,q⟩)
   ·rw[List.mem_singleton.1 w];exact eX.2 (.inl rfl)
  ·rw[←List.append_assoc,←a1.1,List.getElem?_append_right (Nat.le_refl _),Nat.sub_self];rfl
  ·rw[wrP _ (by omega)]
   rfl
theorem vC (k:Nat) (hk:2000000000000≤k) (x:GEx) (mode:Int) (hx:exN x≤1000000) :
  jd.f k x mode=some (if jB x=true∧(0≤mode∧mode≤4) then⟨mode,(cW x []).2,0,0,false⟩ else⟨0,[],0,0,false⟩):=by
 unfold jd.f
 rw[od x (by omega) k (by omega)]
 simp only[Option.bind_some]
 by_cases h1:jB x=true
 ·rw[if_pos h1]
  have hf:=iW h1
  by_cases h2:0≤mode∧mode≤4
  ·rw[(nX h2).2,if_pos ⟨h1,h2⟩]
   simp only[Option.bind_some,if_true]
   obtain⟨es',T',_,_,_,_,_,_,e⟩:=Ez x ⟨hf.2,hf.1⟩ k (by omega) [] [] [] mode 0 0 false oT (by simp) ⟨rfl,fun i e h=>by simp at h⟩ (by simp) (by simp;omega)
   rw[e]
   rfl
  ·rw[(nV mode).2,if_neg (fun q=>h2 q.2)]
   simp only[Option.bind_some]
   rw[if_neg (by simpa using h2)]
 ·rw[if_neg h1,if_neg (fun q=>h1 q.1)]
theorem FS (k:Nat) (l:List GOcc) (t:Int) (hl:l.length≤1000000):∀(d i N:Nat) (a b:List GOcc),i+d=l.length→d<N→a.length≤i→b.length≤i→dB.l0 k l t N a b (i:Int)=some (a++(l.drop i).filter (fun o=>o.To==t),b++(l.drop i).filter (fun o=> !(o.To==t))):=by
 intro d
 induction d with
 |zero=>
  intro i N a b hi hN ha hb
  obtain⟨N,rfl⟩:∃q,N=q+1:=⟨N-1,by omega⟩
  rw[dB.l0,if_neg (by omega),List.drop_eq_nil_of_le (by omega)]
  simp
 |succ d ih=>
  intro i N a b hi hN ha hb
  obtain⟨N,rfl⟩:∃q,N=q+1:=⟨N-1,by omega⟩
  have hlt:i<l.length:=by omega
  rw[dB.l0,if_pos (by omega),ae (by omega),Int.toNat_natCast,List.getElem?_eq_getElem hlt,List.drop_eq_getElem_cons hlt]
  simp only[Option.bind_some]
  by_cases h:l[i].To=t
  ·rw[if_pos h,ae (by omega),ae (by omega),wrS i (by omega),ih (i+1) N _ _ (by omega) (by omega) (by rw[List.length_append,List.length_singleton];omega) (by omega)]
   rw[List.filter_cons_of_pos (by simpa using h),List.filter_cons_of_neg (by simpa using h),List.append_assoc];rfl
  ·rw[if_neg h,ae (by omega),ae (by omega),wrS i (by omega),ih (i+1) N _ _ (by omega) (by omega) (by omega) (by rw[List.length_append,List.length_singleton];omega)]
   rw[List.filter_cons_of_neg (by simpa using h),List.filter_cons_of_pos (by simpa using h),List.append_assoc];rfl
theorem FF (k:Nat) (hk:1000000000000≤k) (l:List GOcc) (t:Int) (hl:l.length≤1000000):dB.f k l t=some (atM l t,l.filter fun o=> !(o.To==t)):=by
 have:=FS k l t hl l.length 0 k [] [] (by omega) (by omega) (by simp) (by simp)
 rw[show((0:Nat):Int)=0 from rfl,List.drop_zero,List.nil_append,List.nil_append] at this
 unfold dB.f
 rw[this];rfl
theorem D7 (o:GOcc) (n:Int) (h:Few o) (h1: -100000≤o.To+n∧o.To+n≤200000):gU.f o n=some (dz n o):=by
 unfold gU.f
 rw[qx _ h]
 simp only[Option.bind_some]
 rw[wr _ (by omega)]
 rfl
theorem EG (k:Nat) (hk:1000000000000≤k) (n:GNode) (t:Int) (kid:List GOcc) (hd:Ok 40 n.Due) (hm:kid.length≤80000000000) (hid:Ids kid) (ht:∀o∈kid, -100000≤o.To+n.N∧o.To+n.N≤200000) :
  dl.f k n t kid=some (⟨n.Kind,n.Sym,n.N,n.Kids,n.Pair,n.Span,qT t n.N n.Due kid,n.Many⟩,atM n.Due t):=by
 unfold dl.f
 rw[FF k hk n.Due t (by have:=hd.2.2;omega)]
 simp only[Option.bind_some]
 have hd2:=hd.filter (fun o=> !(o.To==t))
 have:=cf kid (fun s o=>(gU.f o n.N).bind fun x=>cg.f k s x) (dl.l0 k n kid) (fun s o=>cq s (dz n.N o)) (fun j s=>Ok (40+j) s)
  (fun N s=>by rw[dl.l0,if_neg (by omega)])
  (fun N s j h=>by
   rw[dl.l0,if_pos (by omega),ae (by omega),Int.toNat_natCast,List.getElem?_eq_getElem h]
   simp only[Option.bind_some,Option.bind_assoc]
   rw[wrS j (by omega)])
  (fun j s h hI=>by
   have ho:=hid _ (List.getElem_mem h)
   have hf:Few kid[j]:=by have:=fg ho;omega
   have:=hI.2.2
   refine⟨?_,(hI.put (pL ho)).mono (by omega)⟩
   rw[D7 _ _ hf (ht _ (List.getElem_mem h))]
   simp only[Option.bind_some]
   rw[lK k hk _ _ (by omega) hI.2.1.few (Dq hf)])
  k (n.Due.filter fun o=> !(o.To==t)) (by omega) (by simpa using hd2)
 rw[this.1]
 rfl
theorem Et (k:Nat) (hk:1000000000000≤k) (g:GGraph) (hmo:0≤g.Mode∧g.Mode≤4) (t sy:Int) (ev:Option Int) (hsy:∀s,0≤s→(s=sy↔ev=some s)) (f0:Bool) (N i:Nat) (ns:List GNode) (full:Bool) (found:List (List GOcc)) (n:GNode) (e:GEx) (es:List GEx) (hi:i<g.Nodes.length) (hg:g.Nodes.length≤1000) (hl:ns.length=g.Nodes.length) (hn:ns[i]? =some n)
  (hx:eP e) (hR:jZ es i n e) (hS:kg t n) (hf:found.length=i) (hF:iE t es found) (hs:0≤g.Seen∧g.Seen≤23) (ht:0≤t∧t≤100000) :
  aN.l0 k g t sy (N+1) ns full found (i:Int) f0=aN.l0 k g t sy N (ns.set i (dX (au g.Mode g.Seen t ev found n))) (full||decide (40<(dX (au g.Mode g.Seen t ev found n)).Many)) (found++[(au g.Mode g.Seen t ev found n).2]) ((i+1:Nat):Int) f0:=by
 have hout:=rV (mode:=g.Mode) (seen:=g.Seen) (ev:=ev) hx hR hS hf hF hs
 have h12:=hx.2
 have hsm:=hout.small h12
 have hkl:=hR.2.2.2.1
 obtain⟨S1,S2,S3,S4,S5,m0,m1,T1,T2,T3,T4⟩:=hS
 have W:∀(q:Nat),q≤30420000000→IntKind.wrap .i64 (n.Many+(q:Int))=n.Many+(q:Int):=fun q hq=>wr _ (by omega)
 have fin:∀(m:GNode) (out:List GOcc),au g.Mode g.Seen t ev found n=(m,out)→m.Many=n.Many→∀m':GNode,m'=dX (m,out)→
   (if full=true then req ((0:Int)≤(i:Int)) (req ((i:Int)<(ns.length:Nat)) (req ((found.length+1) * 24≤140737488355328) (aN.l0 k g t sy N (ns.set i m') true (found++[out]) ((i+1:Nat):Int) f0))) else req ((0:Int)≤(i:Int)) (req ((i:Int)<(ns.length:Nat)) (req ((found.length+1) * 24≤140737488355328) (aN.l0 k g t sy N (ns.set i m') (decide (40<n.Many+(out.length:Int))) (found++[out]) ((i+1:Nat):Int) f0)))) =
   aN.l0 k g t sy N (ns.set i (dX (au g.Mode g.Seen t ev found n))) (full||decide (40<(dX (au g.Mode g.Seen t ev found n)).Many)) (found++[(au g.Mode g.Seen t ev found n).2]) ((i+1:Nat):Int) f0:=by
  intro m out h hm m' hm'
  rw[h,hm']
  have:(dX (m,out)).Many=n.Many+(out.length:Int):=by show m.Many+_=_;rw[hm]
  rw[this]
  cases full
  ·rw[if_neg (by decide),Bool.false_or,ae (by omega),ae (by omega),ae (by omega)]
  ·rw[if_pos rfl,Bool.true_or,ae (by omega),ae (by omega),ae (by omega)]
 rw[aN.l0,if_pos (by omega),ae (by omega),ae (by omega),Int.toNat_natCast,hn]
 simp only[Option.bind_some]
 rw[wrS i (by omega)]
 rcases dY (bP hx.1).1 with⟨hk',hK⟩|⟨hk',hK⟩|⟨hk',hK⟩|⟨hk',hK⟩|⟨hk',hK⟩|⟨hk',hK⟩|⟨hk',hK⟩ <;> rw[←hR.1] at hk'
 ·rw[if_pos hk']
  have hsym0:0≤n.Sym:=by rw[hR.2.1];exact(m6 (bP hx.1).1).2.1.1
  by_cases hq:n.Sym=sy
  ·have he:ev=some n.Sym:=(hsy n.Sym hsym0).1 hq
   rw[if_pos hq,ae (by decide)]
   have hfd:au g.Mode g.Seen t ev found n=(n,[⟨t,t,[g.Seen]⟩]):=by unfold au;rw[if_pos hk',if_pos he]
   rw[show IntKind.wrap .i64 (n.Many+(((0+1:Nat)):Int))=n.Many+(([⟨t,t,[g.Seen]⟩]:List GOcc).length:Int) from W 1 (by omega)]
   exact fin n _ hfd rfl _ rfl
  ·have he:¬ev=some n.Sym:=fun w=>hq ((hsy n.Sym hsym0).2 w)
   rw[if_neg hq]
   have hfd:au g.Mode g.Seen t ev found n=(n,[]):=by unfold au;rw[if_pos hk',if_neg he]
   rw[show IntKind.wrap .i64 (n.Many+((0:Nat):Int))=n.Many+(([]:List GOcc).length:Int) from W 0 (by omega)]
   exact fin n _ hfd rfl _ rfl
 ·have a:=bc hR hf hF (j:=0) (x:=e.Kids[0]'(by omega)) (by simp)
  have b:=bc hR hf hF (j:=1) (x:=e.Kids[1]'(by omega)) (by simp)
  have hN:exN (e.Kids[0]'(by omega))+exN (e.Kids[1]'(by omega))+1=exN e:=by obtain⟨x,y,hK'⟩:=fT hK;rw[fU hK'];simp only[hK',List.getElem_cons_zero,List.getElem_cons_succ]
  have h2:=a.two b (by omega)
  rw[co] at h2
  obtain⟨q0,a1,a2,a3,_⟩:=bO hR hf (j:=0) (by rw[hK];decide)
  obtain⟨q1,b1,b2,b3,_⟩:=bO hR hf (j:=1) (by rw[hK];decide)
  rw[if_neg (by omega),if_pos hk']
  rw[ae (by decide),ae (by omega),a2]
  simp only[Option.bind_some]
  rw[ae (by omega),ae (by omega),Int.toNat_natCast,a3]
  simp only[Option.bind_some]
  rw[qf k hk _ (by omega) a.2.1.few]
  simp only[Option.bind_some]
  rw[ae (by decide),ae (by omega),b2]
  simp only[Option.bind_some]
  rw[ae (by omega),ae (by omega),Int.toNat_natCast,b3]
  simp only[Option.bind_some]
  rw[dV k hk _ _ (by omega) a.2.1.few b.2.1.few]
  simp only[Option.bind_some]
  have hfd:au g.Mode g.Seen t ev found n=(n,bd (ap found n 0) (ap found n 1)):=by unfold au;rw[if_neg (by omega),if_pos hk']
  rw[hfd] at hsm
  rw[W _ hsm]
  exact fin n _ hfd rfl _ rfl
 ·have a:=bc hR hf hF (j:=0) (x:=e.Kids[0]'(by omega)) (by simp)
  have b:=bc hR hf hF (j:=1) (x:=e.Kids[1]'(by omega)) (by simp)
  have hN:exN (e.Kids[0]'(by omega))+exN (e.Kids[1]'(by omega))+1=exN e:=by obtain⟨x,y,hK'⟩:=fT hK;rw[fU hK'];simp only[hK',List.getElem_cons_zero,List.getElem_cons_succ]
  have h2:=a.two b (by omega)
  rw[co] at h2
  obtain⟨q0,a1,a2,a3,_⟩:=bO hR hf (j:=0) (by rw[hK];decide)
  obtain⟨q1,b1,b2,b3,_⟩:=bO hR hf (j:=1) (by rw[hK];decide)
  rw[if_neg (by omega),if_neg (by omega),if_pos hk']
  rw[ae (by decide),ae (by omega),a2]
  simp only[Option.bind_some]
  rw[ae (by omega),ae (by omega),Int.toNat_natCast,a3]
  simp only[Option.bind_some]
  rw[ae (by decide),ae (by omega),b2]
  simp only[Option.bind_some]
  rw[ae (by omega),ae (by omega),Int.toNat_natCast,b3]
  simp only[Option.bind_some]
  rw[yy k hk g.Mode hmo n.Pair _ _ 40 40 (ap found n 0).length (ap found n 1).length S1 S2 a.2.1 b.2.1 (Nat.le_refl _) (Nat.le_refl _) (by rw[Nat.mul_add,Nat.mul_comm (ap found n 1).length (ap found n 0).length];omega)]
  simp only[Option.bind_some]
  have hfd:au g.Mode g.Seen t ev found n=(⟨n.Kind,n.Sym,n.N,n.Kids,⟨(eN g.Mode n.Pair.Left n.Pair.Right (ap found n 0) (ap found n 1)).1,(eN g.Mode n.Pair.Left n.Pair.Right (ap found n 0) (ap found n 1)).2.1⟩,n.Span,n.Due,n.Many⟩,(eN g.Mode n.Pair.Left n.Pair.Right (ap found n 0) (ap found n 1)).2.2):=by unfold au;rw[if_neg (by omega),if_neg (by omega),if_pos hk']
  rw[hfd] at hsm
  rw[W _ hsm]
  exact fin _ _ hfd rfl _ rfl
 ·have a:=bc hR hf hF (j:=0) (x:=e.Kids[0]'(by omega)) (by simp)
  have b:=bc hR hf hF (j:=1) (x:=e.Kids[1]'(by omega)) (by simp)
  have hN:exN (e.Kids[0]'(by omega))+exN (e.Kids[1]'(by omega))+1=exN e:=by obtain⟨x,y,hK'⟩:=fT hK;rw[fU hK'];simp only[hK',List.getElem_cons_zero,List.getElem_cons_succ]
  have h2:=a.two b (by omega)
  rw[co] at h2
  obtain⟨q0,a1,a2,a3,_⟩:=bO hR hf (j:=0) (by rw[hK];decide)
  obtain⟨q1,b1,b2,b3,_⟩:=bO hR hf (j:=1) (by rw[hK];decide)
  rw[if_neg (by omega),if_neg (by omega),if_neg (by omega),if_pos hk']
  rw[ae (by decide),ae (by omega),a2]
  simp only[Option.bind_some]
  rw[ae (by omega),ae (by omega),Int.toNat_natCast,a3]
  simp only[Option.bind_some]
  rw[ae (by decide),ae (by omega),b2]
  simp only[Option.bind_some]
  rw[ae (by omega),ae (by omega),Int.toNat_natCast,b3]
  simp only[Option.bind_some]
  rw[yS k hk g.Mode hmo n.Pair _ _ 40 (ap found n 1).length (by omega) (by omega) (by omega) S1 a.2.1 b.2.1 (by omega) (Nat.le_refl _)]
  simp only[Option.bind_some]
  have hfd:au g.Mode g.Seen t ev found n=(⟨n.Kind,n.Sym,n.N,n.Kids,⟨(gT g.Mode n.Pair.Left (ap found n 0) (ap found n 1)).1,n.Pair.Right⟩,n.Span,n.Due,n.Many⟩,(gT g.Mode n.Pair.Left (ap found n 0) (ap found n 1)).2):=by unfold au;rw[if_neg (by omega),if_neg (by omega),if_neg (by omega),if_pos hk']
  rw[hfd] at hsm
  rw[W _ hsm]
  exact fin _ _ hfd rfl _ rfl
 ·have a:=bc hR hf hF (j:=0) (x:=e.Kids[0]'(by omega)) (by simp)
  have b:=bc hR hf hF (j:=1) (x:=e.Kids[1]'(by omega)) (by simp)
  have c:=bc hR hf hF (j:=2) (x:=e.Kids[2]'(by omega)) (by simp)
  have hN:exN (e.Kids[0]'(by omega))+exN (e.Kids[1]'(by omega))+exN (e.Kids[2]'(by omega))+1=exN e:=by obtain⟨x,y,z,hK'⟩:=hO hK;rw[ia hK'];simp only[hK',List.getElem_cons_zero,List.getElem_cons_succ]
  have:=eI (e.Kids[1]'(by omega))
  have:=eI (e.Kids[2]'(by omega))
  have h2:=a.two c (by omega)
  have h3:=b.small (by omega)
  rw[co] at h2
  obtain⟨q0,a1,a2,a3,_⟩:=bO hR hf (j:=0) (by rw[hK];decide)
  obtain⟨q1,b1,b2,b3,_⟩:=bO hR hf (j:=1) (by rw[hK];decide)
  obtain⟨q2,c1,c2,c3,_⟩:=bO hR hf (j:=2) (by rw[hK];decide)
  rw[if_neg (by omega),if_neg (by omega),if_neg (by omega),if_neg (by omega),if_pos hk']
  rw[ae (by decide),ae (by omega),a2]
  simp only[Option.bind_some]
  rw[ae (by omega),ae (by omega),Int.toNat_natCast,a3]
  simp only[Option.bind_some]
  rw[ae (by decide),ae (by omega),b2]
  simp only[Option.bind_some]
  rw[ae (by omega),ae (by omega),Int.toNat_natCast,b3]
  simp only[Option.bind_some]
  rw[ae (by decide),ae (by omega),c2]
  simp only[Option.bind_some]
  rw[ae (by omega),ae (by omega),Int.toNat_natCast,c3]
  simp only[Option.bind_some]
  rw[ye k hk g.Mode hmo n.Span _ _ _ 40 (ap found n 2).length (by omega) (by omega) (by omega) S3 S4 a.2.1 b.2.1 c.2.1 (by omega) (by omega) (Nat.le_refl _)]
  simp only[Option.bind_some]
  have hfd:au g.Mode g.Seen t ev found n=(⟨n.Kind,n.Sym,n.N,n.Kids,n.Pair,⟨(ew g.Mode n.Span.Left n.Span.Mid (ap found n 0) (ap found n 1) (ap found n 2)).1,(ew g.Mode n.Span.Left n.Span.Mid (ap found n 0) (ap found n 1) (ap found n 2)).2.1⟩,n.Due,n.Many⟩,(ew g.Mode n.Span.Left n.Span.Mid (ap found n 0) (ap found n 1) (ap found n 2)).2.2):=by unfold au;rw[if_neg (by omega),if_neg (by omega),if_neg (by omega),if_neg (by omega),if_pos hk']
  rw[hfd] at hsm
  rw[W _ hsm]
  exact fin _ _ hfd rfl _ rfl
 ·have a:=bc hR hf hF (j:=0) (x:=e.Kids[0]'(by omega)) (by simp)
  have b:=bc hR hf hF (j:=1) (x:=e.Kids[1]'(by omega)) (by simp)
  have c:=bc hR hf hF (j:=2) (x:=e.Kids[2]'(by omega)) (by simp)
  have hN:exN (e.Kids[0]'(by omega))+exN (e.Kids[1]'(by omega))+exN (e.Kids[2]'(by omega))+1=exN e:=by obtain⟨x,y,z,hK'⟩:=hO hK;rw[ia hK'];simp only[hK',List.getElem_cons_zero,List.getElem_cons_succ]
  have:=eI (e.Kids[1]'(by omega))
  have:=eI (e.Kids[2]'(by omega))
  have h2:=a.two b (by omega)
  have h3:=c.small (by omega)
  rw[co] at h2
  obtain⟨q0,a1,a2,a3,_⟩:=bO hR hf (j:=0) (by rw[hK];decide)
  obtain⟨q1,b1,b2,b3,_⟩:=bO hR hf (j:=1) (by rw[hK];decide)
  obtain⟨q2,c1,c2,c3,_⟩:=bO hR hf (j:=2) (by rw[hK];decide)
  rw[if_neg (by omega),if_neg (by omega),if_neg (by omega),if_neg (by omega),if_neg (by omega),if_pos hk']
  rw[ae (by decide),ae (by omega),a2]
  simp only[Option.bind_some]
  rw[ae (by omega),ae (by omega),Int.toNat_natCast,a3]
  simp only[Option.bind_some]
  rw[ae (by decide),ae (by omega),b2]
  simp only[Option.bind_some]
  rw[ae (by omega),ae (by omega),Int.toNat_natCast,b3]
  simp only[Option.bind_some]
  rw[ae (by decide),ae (by omega),c2]
  simp only[Option.bind_some]
  rw[ae (by omega),ae (by omega),Int.toNat_natCast,c3]
  simp only[Option.bind_some]
  rw[xa k hk g.Mode n.Span _ _ _ 40 (ap found n 1).length (by omega) (by omega) (by omega) S3 S4 a.2.1 b.2.1 c.2.1 (by omega) (Nat.le_refl _) (by omega)]
  simp only[Option.bind_some]
  have hfd:au g.Mode g.Seen t ev found n=(⟨n.Kind,n.Sym,n.N,n.Kids,n.Pair,⟨(bJ g.Mode n.Span.Left n.Span.Mid (ap found n 0) (ap found n 1) (ap found n 2)).1,(bJ g.Mode n.Span.Left n.Span.Mid (ap found n 0) (ap found n 1) (ap found n 2)).2.1⟩,n.Due,n.Many⟩,(bJ g.Mode n.Span.Left n.Span.Mid (ap found n 0) (ap found n 1) (ap found n 2)).2.2):=by unfold au;rw[if_neg (by omega),if_neg (by omega),if_neg (by omega),if_neg (by omega),if_neg (by omega),if_pos hk']
  rw[hfd] at hsm
  rw[W _ hsm]
  exact fin _ _ hfd rfl _ rfl
 ·have a:=bc hR hf hF (j:=0) (x:=e.Kids[0]'(by omega)) (by simp)
  have hN:exN (e.Kids[0]'(by omega))+1=exN e:=by obtain⟨x,hK'⟩:=rS hK.1;rw[rZ hK'];simp only[hK',List.getElem_cons_zero]
  have hsa:=a.small (by omega)
  obtain⟨q0,a1,a2,a3,_⟩:=bO hR hf (j:=0) (by rw[hK.1];decide)
  rw[if_neg (by omega),if_neg (by omega),if_neg (by omega),if_neg (by omega),if_neg (by omega),if_neg (by omega),if_pos hk']
  rw[ae (by decide),ae (by omega),a2]
  simp only[Option.bind_some]
  rw[ae (by omega),ae (by omega),Int.toNat_natCast,a3]
  simp only[Option.bind_some]
  rw[EG k hk n t _ S5 (by omega) a.2.1 (fun o ho=>by have:=a.2.2.2 o ho;have h7:=hR.2.2.1;have hh:=hK.2;omega)]
  simp only[Option.bind_some]
  have hfd:au g.Mode g.Seen t ev found n=(⟨n.Kind,n.Sym,n.N,n.Kids,n.Pair,n.Span,qT t n.N n.Due (ap found n 0),n.Many⟩,atM n.Due t):=by unfold au;rw[if_neg (by omega),if_neg (by omega),if_neg (by omega),if_neg (by omega),if_neg (by omega),if_neg (by omega)]
  rw[hfd] at hsm
  rw[W _ hsm]
  exact fin _ _ hfd rfl _ rfl
theorem min_k (a b:Int):io.f a b=some (if b<a then b else a):=by
 unfold io.f
 by_cases h:a<b
 ·rw[if_pos h,if_neg (by omega)]
 ·rw[if_neg h]
  by_cases h2:b<a
  ·rw[if_pos h2]
  ·rw[if_neg h2,show a=b by omega]
theorem DT (k:Nat) (g:GGraph) (i:Nat) (n:GNode) (hn:g.Nodes[i]? =some n) (t:Int) (hk:2000≤k) (hl:n.Due.length≤1000):bu.l3 k g (i:Int) k t 0=some (gO t n.Due):=by
 have:=cf n.Due (fun s o=>some (if o.To<s then o.To else s)) (bu.l3 k g (i:Int)) (fun s o=>if o.To<s then o.To else s) (fun _ _=>True)
  (fun N s=>by
   rw[bu.l3,ae (by omega),Int.toNat_natCast,hn]
   simp only[Option.bind_some]
   rw[if_neg (by omega)])
  (fun N s j h=>by
   rw[bu.l3,ae (by omega),Int.toNat_natCast,hn]
   simp only[Option.bind_some]
   rw[if_pos (by omega),ae (by omega)]
   rw[ae (by omega),Int.toNat_natCast,List.getElem?_eq_getElem h]
   simp only[Option.bind_some]
   rw[min_k,wrS j (by omega)]
   rfl)
  (fun j s h _=>⟨rfl,trivial⟩) k t (by omega) trivial
 exact this.1
theorem DQ (k:Nat) (hk:1000000000000≤k) (g:GGraph) (b:Int) (hg:g.Nodes.length≤1000) (hd:∀n∈g.Nodes,n.Due.length≤1000):bu.f k g b=some (bt g.Nodes b):=by
 have L:∀(d i N:Nat) (s:Int),i+d=g.Nodes.length→d<N→bu.l2 k g N s (i:Int)=some (bt (g.Nodes.drop i) s):=by
  intro d
  induction d with
  |zero=>
   intro i N s hi hN
   obtain⟨N,rfl⟩:∃q,N=q+1:=⟨N-1,by omega⟩
   rw[bu.l2,if_neg (by omega),List.drop_eq_nil_of_le (by omega)];rfl
  |succ d ih=>
   intro i N s hi hN
   obtain⟨N,rfl⟩:∃q,N=q+1:=⟨N-1,by omega⟩
   have hlt:i<g.Nodes.length:=by omega
   rw[bu.l2,if_pos (by omega),DT k g i _ (List.getElem?_eq_getElem hlt) s (by omega) (hd _ (List.getElem_mem hlt))]
   simp only[Option.bind_some]
   rw[wrS i (by omega),ih (i+1) N _ (by omega) (by omega),List.drop_eq_getElem_cons hlt]
   rfl
 have:=L g.Nodes.length 0 k b (by omega) (by omega)
 rw[show((0:Nat):Int)=0 from rfl,List.drop_zero] at this
 unfold bu.f
 rw[this];rfl
theorem zI {τ:Type} {mode seen t:Int} {ev:Option Int} {es:List GEx} {nodes:List GNode} (hR:lP t es nodes) (hs:0≤seen∧seen≤23) (full0:Bool) (ret:List GNode→Bool→List (List GOcc)→τ) (L:Nat→List GNode→Bool→List (List GOcc)→Int→Option τ)
  (hend:∀N ns full found,ns.length=nodes.length→L (N+1) ns full found (nodes.length:Int)=some (ret ns full found))
  (hstep:∀(N i:Nat) (ns:List GNode) (full:Bool) (found:List (List GOcc)) (n:GNode) (e:GEx),i<nodes.length→ns.length=nodes.length→ns[i]? =some n→eP e→jZ es i n e→kg t n→found.length=i→iE t es found→
   L (N+1) ns full found (i:Int)=L N (ns.set i (dX (au mode seen t ev found n))) (full||decide (40<(dX (au mode seen t ev found n)).Many)) (found++[(au mode seen t ev found n).2]) ((i+1:Nat):Int)) :
  ∀(d N i:Nat),i+d=nodes.length→d<N→L N ((eL mode seen t ev nodes i).1++nodes.drop i) (full0||cI (eL mode seen t ev nodes i).1) (eL mode seen t ev nodes i).2 (i:Int)=some (ret (aA mode seen t ev nodes).1 (full0||cI (aA mode seen t ev nodes).1) (aA mode seen t ev nodes).2):=by
 intro d
 induction d with
 |zero=>
  intro N i hi hN
  obtain⟨N,rfl⟩:∃m,N=m+1:=⟨N-1,by omega⟩
  have:i=nodes.length:=by omega
  subst this
  rw[nF,List.drop_length,List.append_nil,hend _ _ _ _ (dS mode seen t ev nodes).1]
 |succ d ih=>
  intro N i hi hN
  obtain⟨N,rfl⟩:∃m,N=m+1:=⟨N-1,by omega⟩
  have hlt:i<nodes.length:=by omega
  have hl:=jg (mode:=mode) (seen:=seen) (t:=t) (ev:=ev) (ns:=nodes) (i:=i) (by omega)
  obtain⟨e,he,hx,hr⟩:=hR.1.2 i nodes[i] (List.getElem?_eq_getElem hlt)
  have hn:((eL mode seen t ev nodes i).1++nodes.drop i)[i]? =some nodes[i]:=by
   rw[List.getElem?_append_right (by omega),hl.1,Nat.sub_self,List.drop_eq_getElem_cons hlt];rfl
  rw[hstep N i _ _ _ nodes[i] e hlt (by rw[List.length_append,List.length_drop,hl.1];omega) hn hx hr (hR.2.2 _ (List.getElem_mem _)) hl.2 (mJ hR hs (by omega))]
  have:=ih N (i+1) (by omega) (by omega)
  rw[ko hlt] at this
  simp only[mT] at this
  rw[←this,List.drop_eq_getElem_cons hlt,List.set_append_right _ _ (by omega),hl.1,Nat.sub_self,List.set_cons_zero,List.append_assoc,List.singleton_append]
  congr 1
  unfold cI
  rw[List.any_append,Bool.or_assoc]
  simp
theorem zr (k:Nat) (hk:1000000000000≤k) (g:GGraph) (hmo:0≤g.Mode∧g.Mode≤4) (t sy:Int) (ev:Option Int) (hsy:∀s,0≤s→(s=sy↔ev=some s)) (es:List GEx) (hR:lP t es g.Nodes) (h1:1≤g.Nodes.length) (hs:0≤g.Seen∧g.Seen≤23) (ht:0≤t∧t≤100000) :
  aN.f k g t sy=some (⟨g.Mode,(aA g.Mode g.Seen t ev g.Nodes).1,g.Seen,g.Now,g.Full||cI (aA g.Mode g.Seen t ev g.Nodes).1⟩,ft (aA g.Mode g.Seen t ev g.Nodes).2):=by
 have h12:=hR.2.1
 have:=zI (mode:=g.Mode) (ev:=ev) hR hs g.Full (fun ns full found=>(ns,full,found,g.Full)) (fun N ns full found i=>aN.l0 k g t sy N ns full found i g.Full)
  (fun N ns full found hl=>by rw[aN.l0,if_neg (by omega)])
  (fun N i ns full found n e hi hl hn hx hr hS hf hF=>Et k hk g hmo t sy ev hsy g.Full N i ns full found n e es hi (by omega) hl hn hx hr hS hf hF hs ht) g.Nodes.length k 0 (by omega) (by omega)
 simp only[eL,List.take_zero,List.foldl_nil,List.drop_zero,List.nil_append,cI,List.any_nil,Bool.or_false] at this
 unfold aN.f
 rw[show((0:Nat):Int)=0 from rfl] at this
 rw[this]
 simp only[Option.bind_some]
 have hl:=dS g.Mode g.Seen t ev g.Nodes
 have q:=congrArg (Option.bind · fun x=>some ((⟨g.Mode,(aA g.Mode g.Seen t ev g.Nodes).1,g.Seen,g.Now,g.Full||cI (aA g.Mode g.Seen t ev g.Nodes).1⟩:GGraph),x)) (tw hl.2 h1 (by omega))
 simp only[s4,Option.bind_some] at q
 exact q
theorem xU (k:Nat) (hk:1000000000000≤k) (e:GEv) (mode seen now:Int) (hmo:0≤mode∧mode≤4) (es:List GEx) (hs:0≤seen∧seen≤23) (he:e.At≤1000) (f0:Bool):∀(f N:Nat) (ns:List GNode) (out:List GOcc) (T:Int),eO T es ns→0≤T→T<e.At→(e.At-T).toNat≤f→f+1<N→out.length+40 * f≤1000000→
  dm.l0 k e N mode ns seen now false out f0=some (mode,(bW mode seen e.At f ns out).1,seen,now,(bW mode seen e.At f ns out).2.1,(bW mode seen e.At f ns out).2.2,f0)
 |0,_,_,_,_,_,_,_,_,_,_=>by omega
 |f+1,N,ns,out,T,h,hT0,hT,hf,hN,hol=>by
  obtain⟨N,rfl⟩:∃m,N=m+1:=⟨N-1,by omega⟩
  have nl:=lu ns e.At
  rw[dm.l0,if_neg (by decide),DQ k hk ⟨mode,ns,seen,now,false⟩ e.At (show ns.length≤1000 by have:=h.2.1.2;omega) h.due]
  simp only[Option.bind_some]
  unfold bW
  by_cases hlt:bt ns e.At<e.At
  ·rw[if_pos hlt,if_pos hlt]
   have hT':T<bt ns e.At:=by
    rcases lp ns e.At with q|⟨n,q1,o,q2,q3⟩
    ·omega
    ·rw[q3];exact((h.2.2 n q1).2.2.2.1 o q2).1
   have hR:=h.ready (t:=bt ns e.At) (by omega)
   rw[zr k hk ⟨mode,ns,seen,now,false⟩ hmo (bt ns e.At) (-1) none (fun s hs0=>⟨fun q=>by omega,fun q=>by simp at q⟩) es hR h.2.1.1 hs (by omega)]
   simp only[Option.bind_some,Bool.false_or]
   obtain⟨x,hx,lf⟩:=j9 (mode:=mode) (ev:=none) hR h.2.1.1 hs
   have ls:=lf.small hx.2
   rw[ae (by omega)]
   by_cases hfu:cI (aA mode seen (bt ns e.At) none ns).1=true
   ·rw[if_pos hfu,hfu]
    obtain⟨N,rfl⟩:∃m,N=m+1:=⟨N-1,by omega⟩
    rw[dm.l0,if_pos rfl]
   ·have hfu':cI (aA mode seen (bt ns e.At) none ns).1=false:=by simpa using hfu
    rw[if_neg hfu,hfu']
    have ll:=pv (mode:=mode) (ev:=none) hR h.2.1.1 hs hfu'
    exact xU k hk e mode seen now hmo es hs he f0 f N _ _ (bt ns e.At) (ja h (Int.le_of_lt hT') nl.2 hs hfu') (by omega) hlt (by omega) (by omega) (by rw[List.length_append];omega)
  ·rw[if_neg hlt,if_neg hlt]
theorem Dp (k:Nat) (hk:1000000000000≤k) (e:GEv) (hsym:0≤e.Sym) (g:GGraph) (hmo:0≤g.Mode∧g.Mode≤4) (es:List GEx) (T:Int) (h:eO T es g.Nodes) (hT:0≤T∧T<e.At∧e.At≤1000) (hs:0≤g.Seen∧g.Seen≤23) (hf:g.Full=false) :
  dm.f k g e=some (match ir g.Mode g.Seen g.Nodes e with|none=>(⟨g.Mode,[],g.Seen+1,e.At,true⟩,[])|some r=>(⟨g.Mode,r.1,g.Seen+1,e.At,false⟩,r.2)):=by
 unfold dm.f
 rw[hf,xU k hk e g.Mode g.Seen g.Now hmo es hs hT.2.2 false 1001 k g.Nodes [] T h hT.1 hT.2.1 (by omega) (by omega) (by simp)]
 simp only[Option.bind_some]
 unfold ir
 rw[wr (g.Seen+1) (by omega)]
 by_cases h1:(bW g.Mode g.Seen e.At 1001 g.Nodes []).2.1=true
 ·rw[if_pos h1,if_pos h1]
 ·rw[if_neg h1,if_neg h1]
  obtain⟨T',a,b,c,d,f,gg⟩:=nM (mode:=g.Mode) (before:=e.At) hs 1001 g.Nodes [] T h hT.2.1 (by omega) (fun o hh=>by simp at hh) (by simp) (by simpa using h1)
  have hR:=c.ready (t:=e.At) (by omega)
  rw[zr k hk ⟨g.Mode,(bW g.Mode g.Seen e.At 1001 g.Nodes []).1,g.Seen,g.Now,false⟩ hmo e.At e.Sym (some e.Sym) (fun s _=>⟨fun q=>by rw[q],fun q=>(Option.some.inj q).symm⟩) es hR c.2.1.1 hs (by omega)]
  simp only[Option.bind_some,Bool.false_or]
  obtain⟨x,hx,lf⟩:=j9 (mode:=g.Mode) (ev:=some e.Sym) hR c.2.1.1 hs
  have ls:=lf.small hx.2
  rw[ae (by omega)]
  by_cases h2:cI (aA g.Mode g.Seen e.At (some e.Sym) (bW g.Mode g.Seen e.At 1001 g.Nodes []).1).1=true
  ·rw[if_pos h2,if_pos h2,wr (g.Seen+1) (by omega)]
  ·rw[if_neg h2,if_neg h2,wr (g.Seen+1) (by omega)]
theorem Ba (k:Nat) (hk:1000000000000≤k) (mode:Int) (hmo:0≤mode∧mode≤4) (l:List GEv) (hl:jr l) (hsy:∀e∈l,0≤e.Sym) (es:List GEx):∀(d N i:Nat) (ns:List GNode) (now T:Int) (out:List GOcc),i+d=l.length→d<N→eO T es ns→0≤T→(∀e∈l.drop i,T<e.At)→Asc out→(∀o∈out,o.To≤T)→Ids out→out.length≤i * 1000040→
  cF.l0 k l N out mode ns (i:Int) now false (i:Int)=some (match gN mode (l.drop i) (i:Int) ns out with|none=>.error ([],false)|some r=>.ok r)∧(∀r,gN mode (l.drop i) (i:Int) ns out=some r→Ids r∧r.length≤l.length * 1000040):=by
 intro d
 induction d with
 |zero=>
  intro N i ns now T out hi hN hG hT hlt ha hto hid hol
  obtain⟨N,rfl⟩:∃m,N=m+1:=⟨N-1,by omega⟩
  rw[cF.l0,if_neg (by omega),List.drop_eq_nil_of_le (by omega)]
  refine⟨rfl,fun r hr=>?_⟩
  cases hr
  have:i=l.length:=by omega
  subst this
  exact⟨hid,hol⟩
 |succ d ih=>
  intro N i ns now T out hi hN hG hT hlt ha hto hid hol
  obtain⟨N,rfl⟩:∃m,N=m+1:=⟨N-1,by omega⟩
  have hii:i<l.length:=by omega
  have h24:=hl.2.2
  have hm:=List.getElem_mem hii
  have he:=hl.2.1 _ hm
  have hTe:=hlt l[i] (by rw[List.drop_eq_getElem_cons hii];exact List.mem_cons_self)
  rw[List.drop_eq_getElem_cons hii]
  rw[cF.l0,if_pos (by omega),ae (by omega),Int.toNat_natCast,List.getElem?_eq_getElem hii]
  simp only[Option.bind_some]
  rw[Dp k hk l[i] (hsy _ hm) ⟨mode,ns,i,now,false⟩ hmo es T hG ⟨hT,hTe,he.2⟩ (by simp only;omega) rfl]
  simp only[Option.bind_some]
  unfold gN
  cases hst:ir mode (i:Int) ns l[i] with
  |none=>
   simp only[if_true]
   exact⟨trivial,fun r hr=>by cases hr⟩
  |some p=>
   obtain⟨ns',f⟩:=p
   simp only[Bool.false_eq_true,if_false]
   obtain⟨g1,g2,g3⟩:=tl hG ⟨hT,hTe,he.2⟩ (by omega) hst
   obtain⟨_,_,m3,m4,_⟩:=Cq hG ⟨hT,hTe,he.2⟩ (by omega) hst
   have happ:Asc (out++f):=iF ha m3 fun x hx y hy=>by have:=hto x hx;have:=(m4 y hy).1;omega
   rw[ae (by omega),wrS i (by omega),show(i:Int)+1=((i+1:Nat):Int) by omega,kL f out happ]
   refine ih N (i+1) ns' l[i].At l[i].At (out++f) (by omega) (by omega) g1 (by omega) (fun e hm'=>?_) happ (fun o ho=>?_) (fun o ho=>(List.mem_append.1 ho).elim (hid o) (g2 o)) (by rw[List.length_append];omega)
   ·obtain⟨j,hj,rfl⟩:=List.mem_iff_getElem.1 hm'
    rw[List.getElem_drop]
    exact(List.pairwise_iff_getElem.1 hl.1) i (i+1+j) hii (by rw[List.length_drop] at hj;omega) (by omega)
   ·rcases List.mem_append.1 ho with q|q
    ·have:=hto o q;omega
    ·exact(m4 o q).2
theorem uh (k:Nat) (hk:2000000000000≤k) (x:GEx) (mode:Int) (l:List GEv) (hx:exN x≤1000000) (hl:l.length≤1000000):cF.f k x mode l=some (ka x mode l):=by
 unfold cF.f ka
 rw[od x (by omega) k (by omega)]
 simp only[Option.bind_some]
 by_cases h1:jB x=true
 ·rw[if_pos h1]
  have hf:=iW h1
  by_cases h2:0≤mode∧mode≤4
  ·rw[(nX h2).2]
   simp only[Option.bind_some,if_true]
   rw[yY k (by omega) l hl]
   simp only[Option.bind_some]
   by_cases h3:gL l=true
   ·rw[if_pos h3,if_pos ⟨h1,h2,h3⟩,vC k hk x mode hx,if_pos ⟨h1,h2⟩]
    simp only[Option.bind_some]
    have hu:=pr h3
    obtain⟨es,hG,_⟩:=qz (x:=x) ⟨hf.2,hf.1⟩
    obtain⟨q,q2⟩:=Ba k (by omega) mode h2 l hu (fun e he=>by have:=y7 h3 he;unfold my at this;simp only[Bool.and_eq_true,decide_eq_true_eq] at this;omega) es l.length k 0 (cW x []).2 0 0 [] (by omega) (by have:=hu.2.2;omega) hG (by omega) (fun e he=>by have:=hu.2.1 e (List.mem_of_mem_drop he);omega) (by simp[Asc]) (fun o h=>by simp at h) (fun o h=>by simp at h) (by simp)
    rw[show((0:Nat):Int)=0 from rfl,List.drop_zero] at q q2
    rw[q]
    cases hg:gN mode l 0 (cW x []).2 [] with
    |none=>rfl
    |some r=>
     simp only[Option.bind_some]
     have:=q2 r hg
     have h24:=hu.2.2
     rw[qf k (by omega) r (by omega) this.1.few]
     rfl
   ·rw[if_neg h3,if_neg (fun q=>h3 q.2.2)]
  ·rw[(nV mode).2,if_neg (fun q=>h2 q.2.1)]
   simp only[Option.bind_some]
   rw[if_neg (by simpa using h2)]
 ·rw[if_neg h1,if_neg (fun q=>h1 q.1)]
theorem zi (p0:List Int) (h0:∀y∈p0,0≤y∧y≤255):∃k,iQ.f k p0=some true:=by
 obtain⟨k,hk⟩:∃k:Nat,k=2000000000000:=⟨_,rfl⟩
 refine⟨k,?_⟩
 unfold iQ.f
 by_cases c0:1048576<(p0.length:Int)
 ·rw[if_pos c0]
 rw[if_neg c0]
 obtain⟨r,e,h⟩:=Bz p0 (by omega) h0
 obtain⟨x,mode,l,r',e2,_,hx,hl,_⟩:=Dz k (by omega) r 0 h (by omega)
 have hd:fA.f k p0=some (x,mode,l):=by
  unfold fA.f
  rw[e]
  simp only[Option.bind_some]
  rw[e2]
  rfl
 rw[hd]
 simp only[Option.bind_some]
 rw[uZ k (by omega) x mode l (by omega) (by omega),xh k (by omega) x mode l (by omega) (by omega),uh k (by omega) x mode l (by omega) (by omega),AX]
 simp only[Option.bind_some]
 have ok:=CE x mode l
 have hlen:=bp ok
 have same:dU.f k (kN x mode l).1 (kN x mode l).1=some true:=xm k _ (by omega) (fun o ho=>by have:=mH ok o ho;omega) (by omega)
 rw[same]
 cases(kN x mode l).2
 ·simp
 ·simp
end Go.Proofs.YtlbnmldopjadoaaGreat
