/- Plain lemmas about the functions over data; second part. -/
import Derived.Test.YtlbnmldopjadoaaGreatQ0
namespace Go.Proofs.YtlbnmldopjadoaaGreat
open Go Go.Vm
set_option linter.unusedVariables false
set_option linter.unusedSimpArgs false
theorem j7:∀{a b:List GOcc},Asc a→Asc b→(∀x,x∈a↔x∈b)→a=b
 |[],[],_,_,_=>rfl
 |[],y::b,_,_,h=>by have:=(h y).2 (by simp);simp at this
 |x::a,[],_,_,h=>by have:=(h x).1 (by simp);simp at this
 |x::a,y::b,ha,hb,h=>by
  have ha':=List.pairwise_cons.1 ha
  have hb':=List.pairwise_cons.1 hb
  have e:x=y:=by
   rcases List.mem_cons.1 ((h x).1 (by simp)) with h1|h1
   ·exact h1
   rcases List.mem_cons.1 ((h y).2 (by simp)) with h2|h2
   ·exact h2.symm
   have:=w5 (hb'.1 x h1)
   rw[ha'.1 y h2] at this
   cases this
  subst e
  rw[j7 ha'.2 hb'.2 fun z=>?_]
  have:=h z
  simp only[List.mem_cons] at this
  constructor
  ·intro hz
   rcases this.1 (.inr hz) with h1|h1
   ·subst h1;have:=ha'.1 z hz;rw[lC] at this;cases this
   ·exact h1
  ·intro hz
   rcases this.2 (.inr hz) with h1|h1
   ·subst h1;have:=hb'.1 z hz;rw[lC] at this;cases this
   ·exact h1
def dx (T:Int) (l:List GOcc):List GOcc:=l.filter fun o=>decide (o.To≤T)
theorem iH {T:Int} {l:List GOcc} {o:GOcc}:o∈dx T l↔o∈l∧o.To≤T:=by unfold dx;rw[List.mem_filter,decide_eq_true_eq]
theorem mZ {T:Int} {l:List GOcc} (h:Asc l):Asc (dx T l):=List.Pairwise.sublist List.filter_sublist h
theorem C3 {T:Int} {a b:List GOcc} (ha:Asc a):dx T (bd a b)=bd (dx T a) (dx T b):=by
 refine j7 (mZ (cL ha)) (cL (mZ ha)) fun x=>?_
 rw[iH,di,di,iH,iH]
 constructor
 ·rintro⟨h|h,h2⟩
  ·exact .inl ⟨h,h2⟩
  ·exact .inr ⟨h,h2⟩
 ·rintro(⟨h,h2⟩|⟨h,h2⟩)
  ·exact⟨.inl h,h2⟩
  ·exact⟨.inr h,h2⟩
theorem ET {T:Int} {l:List GOcc} (h:∀o∈l,o.To≤T):dx T l=l:=List.filter_eq_self.2 fun o ho=>by simpa using h o ho
theorem DF {T:Int} {l:List GOcc} (h:∀o∈l,T<o.To):dx T l=[]:=List.filter_eq_nil_iff.2 fun o ho=>by have:=h o ho;simp;omega
theorem qV {T t:Int} (l:List GOcc) (h:t≤T):atM (dx T l) t=atM l t:=by
 unfold atM dx
 rw[List.filter_filter]
 apply List.filter_congr
 intro o _
 by_cases c:o.To=t
 ·simp[c,h]
 ·simp[c]
/- found at the time of the one that came -/
def d8 (t:Int) (o:GOcc):Prop:=o.To≤t
def eb (t:Int) (o:GOcc):Prop:=o.To=t
theorem yt (t:Int):∀{l:List GOcc} {o:GOcc},All (d8 t) l→eb t o→eb t (nv o l)
 |[],o,_,ho=>ho
 |x::l,o,h,ho=>yt t (l:=l) (o:=cz o x) (fun y hy=>h y (by simp[hy])) (by have:=h x (by simp);unfold eb d8 at *;simp only[cz];omega)
theorem ub (t:Int) {o:GOcc} (ho:eb t o):∀(l acc:List GOcc),All (d8 t) l→All (eb t) acc→All (eb t) (l.foldl (fun s e=>cq s (cz o e)) acc)
 |[],acc,_,ha=>ha
 |x::l,acc,h,ha=>ub t ho l _ (fun y hy=>h y (by simp[hy])) (ha.put (by have:=h x (by simp);unfold eb d8 at *;simp only[cz];omega))
theorem pn (t:Int) {mode:Int} {o:GOcc} {l:List GOcc} (h:All (d8 t) l) (ho:eb t o):All (eb t) (d9 mode o l):=by
 have one:∀x:GOcc,eb t x→All (eb t) [x]:=fun x hx y hy=>by rw[List.mem_singleton.1 hy];exact hx
 have jo:∀x∈l,eb t (cz o x):=fun x hx=>by have:=h x hx;unfold eb d8 at *;simp only[cz];omega
 unfold d9
 by_cases h0:l.length=0
 ·rw[if_pos h0];exact All.nil
 rw[if_neg h0]
 split
 ·exact one _ (jo _ (by rw[List.getElem?_eq_getElem (show l.length-1<l.length by omega)];exact List.getElem_mem _))
 split
 ·exact one _ (jo _ (by rw[List.getElem?_eq_getElem (show 0<l.length by omega)];exact List.getElem_mem _))
 split
 ·exact one _ (yt t h ho)
 ·exact ub t ho l [] h All.nil
theorem All.imp {P Q:GOcc→Prop} {l:List GOcc} (h:All P l) (hi:∀o,P o→Q o):All Q l:=fun x hx=>hi x (h x hx)
theorem kk {t:Int} {o:GOcc} (h:eb t o):d8 t o:=by unfold eb d8 at *;omega
theorem qG (t:Int) {mode:Int} {p:GOcc→GOcc→Bool}:∀(r:List GOcc) {s:List GOcc×List GOcc},All (eb t) r→All (d8 t) s.1→All (eb t) s.2→All (d8 t) (r.foldl (em mode p) s).1∧All (eb t) (r.foldl (em mode p) s).2
 |[],s,_,h1,h2=>⟨h1,h2⟩
 |o::r,s,hr,h1,h2=>qG t r (s:=em mode p s o) (fun y hy=>hr y (by simp[hy])) h1.rem (h2.merge (pn t (h1.filter _) (hr o (by simp))))
/-- a step finds what ends now -/
def xO (t:Int) (f:Two→List GOcc→List GOcc→Two×List GOcc):Prop:=∀(p:Two) (l r:List GOcc),All (d8 t) p.1→All (d8 t) p.2→All (eb t) l→All (eb t) r→All (d8 t) (f p l r).1.1∧All (d8 t) (f p l r).1.2∧All (eb t) (f p l r).2
def vB (t:Int) (f:Two→List GOcc→List GOcc→List GOcc→Two×List GOcc):Prop:=∀(p:Two) (a b c:List GOcc),All (d8 t) p.1→All (d8 t) p.2→All (eb t) a→All (eb t) b→All (eb t) c→All (d8 t) (f p a b c).1.1∧All (d8 t) (f p a b c).1.2∧All (eb t) (f p a b c).2
theorem Bh (t mode:Int):xO t (iS mode):=fun p l r h1 h2 hl hr=>by
 obtain⟨a,b⟩:=qG t (mode:=mode) (p:=before) r (s:=(p.1,[])) hr h1 All.nil
 exact⟨a.merge (hl.imp fun o=>kk),h2,b⟩
def vO (t:Int) (s:List GOcc×List GOcc×List GOcc):Prop:=All (d8 t) s.1∧All (d8 t) s.2.1∧All (eb t) s.2.2
theorem xY {t mode:Int} {s:List GOcc×List GOcc×List GOcc} {o:GOcc} (h:vO t s) (ho:eb t o):vO t (eg mode s o):=⟨h.1.store (kk ho),h.2.1.rem,h.2.2.merge (pn t h.2.1 ho)⟩
theorem CF {t mode:Int} {s:List GOcc×List GOcc×List GOcc} {o:GOcc} (h:vO t s) (ho:eb t o):vO t (iv mode s o):=by
 have:=xY (mode:=mode) (s:=(s.2.1,s.1,s.2.2)) ⟨h.2.1,h.1,h.2.2⟩ ho
 exact⟨this.2.1,this.1,this.2.2⟩
theorem AW (t mode:Int):xO t (iR mode):=fun p l r h1 h2 hl hr=>by
 have a:=fX (vO t) (eg mode) l (p.1,p.2,[]) (fun s x hx h=>xY h (hl x hx)) ⟨h1,h2,All.nil⟩
 have b:=fX (vO t) (iv mode) r _ (fun s x hx h=>CF h (hr x hx)) a
 exact⟨b.1,b.2.1,b.2.2⟩
theorem BE (t mode:Int):vB t (jk mode):=fun p a b c h1 h2 ha hb hc=>by
 obtain⟨x,y⟩:=qG t (mode:=mode) (p:=dF p.2) c (s:=(p.1,[])) hc h1 All.nil
 exact⟨x.merge (ha.imp fun o=>kk),h2.merge (hb.imp fun o=>kk),y⟩
theorem Af (t mode:Int):vB t (gx mode):=fun p a b c h1 h2 ha hb hc=>
 ⟨h1.merge (ha.imp fun o=>kk),h2.merge (hc.imp fun o=>kk),fX (All (eb t)) _ b [] (fun s x hx h=>h.merge (pn t (h1.filter _) (hb x hx))) All.nil⟩
theorem oN (l:List GOcc) (t:Int):All (eb t) (atM l t):=fun o ho=>by
 have:=(List.mem_filter.1 ho).2
 unfold eb
 simpa using this
theorem Db {U:List Int} (h:Up U) (T:Int):U=(U.filter fun t=>decide (t≤T))++(U.filter fun t=>decide (T<t)):=by
 refine lX h ?_ fun x=>?_
 ·refine List.pairwise_append.2 ⟨List.Pairwise.sublist List.filter_sublist h,List.Pairwise.sublist List.filter_sublist h,fun a ha b hb=>?_⟩
  have h1:=(List.mem_filter.1 ha).2
  have h2:=(List.mem_filter.1 hb).2
  simp only[decide_eq_true_eq] at h1 h2
  omega
 ·rw[List.mem_append,List.mem_filter,List.mem_filter,decide_eq_true_eq,decide_eq_true_eq]
  constructor
  ·intro hx
   by_cases c:x≤T
   ·exact .inl ⟨hx,c⟩
   ·exact .inr ⟨hx,by omega⟩
  ·rintro(h|h) <;> exact h.1
theorem wv (T:Int) (ls:List (List GOcc)):bC (ls.map (dx T))=(bC ls).filter fun t=>decide (t≤T):=by
 refine lX (hM _) (List.Pairwise.sublist List.filter_sublist (hM _)) fun t=>?_
 rw[List.mem_filter,eG,eG,decide_eq_true_eq]
 simp only[List.mem_map]
 constructor
 ·rintro⟨h,_,⟨l,hl,rfl⟩,o,ho,rfl⟩
  have:=iH.1 ho
  exact⟨⟨h,l,hl,o,this.1,rfl⟩,this.2⟩
 ·rintro⟨⟨h,l,hl,o,ho,rfl⟩,h2⟩
  exact⟨h,_,⟨l,hl,rfl⟩,o,iH.2 ⟨ho,h2⟩,rfl⟩
/-- a run over times that rise -/
theorem Aj {f:Two→Int→Two×List GOcc} (T:Int) (g:Two→Int→Two×List GOcc) (U:List Int) (hU:Up U) (hfg:∀p t,t≤T→f p t=g p t)
  (hf:∀t (p:Two),All (d8 t) p.1→All (d8 t) p.2→All (d8 t) (f p t).1.1∧All (d8 t) (f p t).1.2∧All (eb t) (f p t).2) :
  dx T (U.foldl (dk f) (([],[]),[])).2=((U.filter fun t=>decide (t≤T)).foldl (dk g) (([],[]),[])).2:=by
 have body:∀(V:List Int) (s:Two×List GOcc) (b:Int),Up V→(∀t∈V,b≤t)→All (d8 b) s.1.1→All (d8 b) s.1.2→Asc s.2→
   (∃b',All (d8 b') (V.foldl (dk f) s).1.1∧All (d8 b') (V.foldl (dk f) s).1.2∧(b'∈V∨b'=b))∧Asc (V.foldl (dk f) s).2∧(∀o∈(V.foldl (dk f) s).2,o∈s.2∨o.To∈V)∧(∀o∈s.2,o∈(V.foldl (dk f) s).2):=by
  intro V
  induction V with
  |nil=>intro s b _ _ h1 h2 h3;exact⟨⟨b,h1,h2,.inr rfl⟩,h3,fun o ho=>.inl ho,fun o ho=>ho⟩
  |cons t V ih=>
   intro s b hV hb h1 h2 h3
   have hV':=List.pairwise_cons.1 hV
   have hbt:=hb t (by simp)
   obtain⟨q1,q2,q3⟩:=hf t s.1 (h1.imp fun o ho=>by unfold d8 at *;omega) (h2.imp fun o ho=>by unfold d8 at *;omega)
   obtain⟨⟨b',r1,r2,r3⟩,r7,r8,r9⟩:=ih (dk f s t) t hV'.2 (fun x hx=>by have:=hV'.1 x hx;omega) q1 q2 (cL h3)
   refine⟨⟨b',r1,r2,?_⟩,r7,fun o ho=>?_,fun o ho=>r9 o (di.2 (.inl ho))⟩
   ·rcases r3 with r3|r3
    ·exact .inl (by simp[r3])
    ·exact .inl (by simp[r3])
   ·rcases r8 o ho with c|c
    ·rcases di.1 c with c|c
     ·exact .inl c
     ·have:=q3 o c
      unfold eb at this
      exact .inr (by simp[this])
    ·exact .inr (by simp[c])
 have same:∀(V:List Int) (s:Two×List GOcc),(∀t∈V,t≤T)→V.foldl (dk f) s=V.foldl (dk g) s:=by
  intro V
  induction V with
  |nil=>intro s _;rfl
  |cons t V ih=>
   intro s h
   rw[List.foldl_cons,List.foldl_cons,show dk f s t=dk g s t by unfold dk;rw[hfg s.1 t (h t (by simp))]]
   exact ih _ fun x hx=>h x (by simp[hx])
 have low:∀t∈U.filter (fun t=>decide (t≤T)),t≤T:=fun t ht=>by simpa using (List.mem_filter.1 ht).2
 have high:∀t∈U.filter (fun t=>decide (T<t)),T<t:=fun t ht=>by simpa using (List.mem_filter.1 ht).2
 have uL:Up (U.filter fun t=>decide (t≤T)):=List.Pairwise.sublist List.filter_sublist hU
 have uH:Up (U.filter fun t=>decide (T<t)):=List.Pairwise.sublist List.filter_sublist hU
 have midT:All (d8 T) ((U.filter fun t=>decide (t≤T)).foldl (dk f) (([],[]),[])).1.1∧All (d8 T) ((U.filter fun t=>decide (t≤T)).foldl (dk f) (([],[]),[])).1.2∧Asc ((U.filter fun t=>decide (t≤T)).foldl (dk f) (([],[]),[])).2∧∀o∈((U.filter fun t=>decide (t≤T)).foldl (dk f) (([],[]),[])).2,o.To≤T:=by
  generalize U.filter (fun t=>decide (t≤T))=L at low uL
  cases L with
  |nil=>exact⟨All.nil,All.nil,by simp[Asc],fun o ho=>by simp at ho⟩
  |cons t L=>
   have h':=List.pairwise_cons.1 uL
   obtain⟨⟨b',r1,r2,r3⟩,r4,r5,r6⟩:=body (t::L) (([],[]),[]) t uL (fun x hx=>by
    rcases List.mem_cons.1 hx with rfl|hx
    ·exact Int.le_refl _
    ·have:=h'.1 x hx;omega) All.nil All.nil (by simp[Asc])
   have hb:b'≤T:=by
    rcases r3 with r3|r3
    ·exact low b' r3
    ·rw[r3];exact low t (by simp)
   refine⟨r1.imp fun o ho=>by unfold d8 at *;omega,r2.imp fun o ho=>by unfold d8 at *;omega,r4,fun o ho=>?_⟩
   rcases r5 o ho with c|c
   ·simp at c
   ·exact low _ c
 rw[←same _ _ low]
 generalize hm:(U.filter fun t=>decide (t≤T)).foldl (dk f) (([],[]),[])=mid at midT
 obtain⟨m1,m2,m3,m4⟩:=midT
 have e:U.foldl (dk f) (([],[]),[])=(U.filter fun t=>decide (T<t)).foldl (dk f) mid:=by
  conv=>lhs;rw[Db hU T,List.foldl_append,hm]
 rw[e]
 obtain⟨_,r4,r5,r6⟩:=body _ mid T uH (fun t ht=>by have:=high t ht;omega) m1 m2 m3
 refine j7 (mZ r4) m3 fun o=>?_
 rw[iH]
 constructor
 ·rintro⟨h1,h2⟩
  rcases r5 o h1 with c|c
  ·exact c
  ·have:=high _ c;omega
 ·intro h
  exact⟨r6 o h,m4 o h⟩
theorem yB {f:Two→List GOcc→List GOcc→Two×List GOcc} (hf:∀t,xO t f) (T:Int) (a b:List GOcc):dx T (fG f a b)=fG f (dx T a) (dx T b):=by
 unfold fG
 have e:=wv T [a,b]
 simp only[List.map_cons,List.map_nil] at e
 rw[e]
 exact Aj T _ _ (hM _) (fun p t ht=>by rw[qV a ht,qV b ht]) fun t p h1 h2=>hf t p _ _ h1 h2 (oN a t) (oN b t)
theorem zt {f:Two→List GOcc→List GOcc→List GOcc→Two×List GOcc} (hf:∀t,vB t f) (T:Int) (a b c:List GOcc):dx T (fH f a b c)=fH f (dx T a) (dx T b) (dx T c):=by
 unfold fH
 have e:=wv T [a,b,c]
 simp only[List.map_cons,List.map_nil] at e
 rw[e]
 exact Aj T _ _ (hM _) (fun p t ht=>by rw[qV a ht,qV b ht,qV c ht]) fun t p h1 h2=>hf t p _ _ _ h1 h2 (oN a t) (oN b t) (oN c t)
theorem B0 (n T till:Int) (l:List GOcc) (hn:1≤n) (h:T≤till):dE n T (dx T l)=dx T (dE n till l):=by
 unfold dE dx
 rw[List.filter_filter,List.filter_map,List.filter_filter]
 congr 1
 apply List.filter_congr
 intro o _
 rw[Bool.eq_iff_iff]
 simp only[kq,Function.comp_apply,dz,Bool.and_eq_true,decide_eq_true_eq]
 constructor
 ·rintro⟨⟨a,b⟩,c⟩
  exact⟨decide_eq_true (by omega),by omega,b⟩
 ·rintro⟨a,b,c⟩
  have a:=of_decide_eq_true a
  exact⟨⟨a,c⟩,by omega⟩
theorem u8_ok {y:Int} (h:(Lit.int .u8 y).wf=true):0≤y∧y≤255:=by
 simp only[Lit.wf,Bool.and_eq_true,decide_eq_true_eq] at h
 exact h
theorem FP (a b:Int) (ha:0≤a∧a<4611686018427387904) (hb:0≤b∧b<4611686018427387904):0≤dh .xor .i64 a b∧dh .xor .i64 a b<4611686018427387904:=by
 obtain⟨m,rfl⟩:∃m:Nat,a=m:=⟨a.toNat,by omega⟩
 obtain⟨n,rfl⟩:∃n:Nat,b=n:=⟨b.toNat,by omega⟩
 have h:(BitVec.ofInt 64 (m:Int) ^^^ BitVec.ofInt 64 (n:Int)).toNat=m ^^^ n:=by
  rw[BitVec.toNat_xor,BitVec.ofInt_natCast,BitVec.ofInt_natCast,BitVec.toNat_ofNat,BitVec.toNat_ofNat,Nat.mod_eq_of_lt (by omega),Nat.mod_eq_of_lt (by omega)]
 have h2:m ^^^ n<2 ^ 62:=Nat.xor_lt_two_pow (by omega) (by omega)
 show 0≤IntKind.wrap .i64 ((BitVec.ofInt 64 (m:Int) ^^^ BitVec.ofInt 64 (n:Int)).toNat:Int)∧_
 have e:dh .xor .i64 (m:Int) (n:Int)=IntKind.wrap .i64 ((BitVec.ofInt 64 (m:Int) ^^^ BitVec.ofInt 64 (n:Int)).toNat:Int):=rfl
 rw[e,h,wr _ (by omega)]
 omega
theorem ru (a b:Int) (ha:0≤a∧a<4611686018427387904) (hb:1≤b∧b<4611686018427387904):dh .rem .i64 a b=a % b:=by
 show a.tmod b=a % b
 exact Int.tmod_eq_emod_of_nonneg ha.1
theorem tO (a b:Int) (ha:0≤a∧a<4611686018427387904) (hb:1≤b∧b<4611686018427387904):dh .quo .i64 a b=a / b∧0≤a / b∧a / b≤a:=by
 have e:dh .quo .i64 a b=IntKind.wrap .i64 (a.tdiv b):=rfl
 have h1:=Int.ediv_nonneg ha.1 (show 0≤b by omega)
 have h2:=Int.ediv_le_self b ha.1
 rw[e,Int.tdiv_eq_ediv_of_nonneg ha.1,wr _ (by omega)]
 exact⟨rfl,h1,h2⟩
/-- a reader over bytes that has read no more than m -/
def dO (r:Gl14Rd) (m:Int):Prop:=(∀x∈r.b,0≤x∧x≤255)∧r.b.length≤1048576∧0≤r.p∧r.p≤m
theorem dO.mono {r:Gl14Rd} {m n:Int} (h:dO r m) (hm:m≤n):dO r n:=⟨h.1,h.2.1,h.2.2.1,by have:=h.2.2.2;omega⟩
theorem kj (r:Gl14Rd) (n:Int) (m:Int) (h:dO r m) (hm:m≤1000000000) (hn:n<4611686018427387904):∃v r',cG.f r n=some (v,r')∧0≤v∧(1≤n→v<n)∧(n<1→v=0)∧dO r' (m+1):=by
 obtain⟨hb,hl,h0,h1⟩:=h
 have hw:IntKind.wrap .i64 (r.p+1)=r.p+1:=wr _ (by omega)
 have hr':dO ⟨r.b,r.p+1⟩ (m+1):=⟨hb,hl,by dsimp only;omega,by dsimp only;omega⟩
 unfold cG.f
 simp only[hw]
 by_cases hn1:n<1
 ·rw[if_pos hn1];exact⟨0,_,rfl,by omega,by omega,fun _=>rfl,hr'⟩
 rw[if_neg hn1]
 by_cases hb0:(r.b.length:Int)=0
 ·rw[if_pos hb0];exact⟨0,_,rfl,by omega,by omega,fun _=>rfl,hr'⟩
 rw[if_neg hb0]
 have hq:IntKind.wrap .i64 (r.p+1-1)=r.p:=by rw[wr _ (by omega)];omega
 simp only[hq]
 by_cases hp:r.p<(r.b.length:Int)
 ·have hlt:r.p.toNat<r.b.length:=by omega
  have he:=hb r.b[r.p.toNat] (List.getElem_mem hlt)
  rw[if_pos hp,ae h0,List.getElem?_eq_getElem hlt]
  simp only[Option.bind_some]
  rw[ae (by omega),wr _ (by omega),ru _ _ (by omega) (by omega)]
  have g1:=Int.emod_nonneg r.b[r.p.toNat] (show n≠0 by omega)
  have g2:=Int.emod_lt_of_pos r.b[r.p.toNat] (show 0<n by omega)
  exact⟨_,_,rfl,g1,fun _=>g2,fun h=>absurd h hn1,hr'⟩
 ·rw[if_neg hp,ae hb0]
  rw[wr (r.p * 7) (by omega),wr (r.p * 7+3) (by omega),wr (r.p * 29) (by omega),ru r.p _ (by omega) (by omega),ru (r.p * 7+3) _ (by omega) (by omega),(tO r.p _ (by omega) (by omega)).1]
  have q1:=Int.emod_nonneg r.p hb0
  have q2:=Int.emod_lt_of_pos r.p (show 0<(r.b.length:Int) by omega)
  have q3:=Int.emod_nonneg (r.p * 7+3) hb0
  have q4:=Int.emod_lt_of_pos (r.p * 7+3) (show 0<(r.b.length:Int) by omega)
  have q5:=(tO r.p (r.b.length:Int) (by omega) (by omega)).2
  generalize r.p % (r.b.length:Int)=i at *
  generalize (r.p * 7+3) % (r.b.length:Int)=j at *
  generalize r.p / (r.b.length:Int)=d at *
  have hi:i.toNat<r.b.length:=by omega
  have hj:j.toNat<r.b.length:=by omega
  have e1:=hb r.b[i.toNat] (List.getElem_mem hi)
  have e2:=hb r.b[j.toNat] (List.getElem_mem hj)
  rw[ae q1,List.getElem?_eq_getElem hi]
  simp only[Option.bind_some]
  rw[ae hb0,ae q3,List.getElem?_eq_getElem hj]
  simp only[Option.bind_some]
  generalize r.b[i.toNat]=x at *
  generalize r.b[j.toNat]=y at *
  rw[ae hb0,ae (by omega)]
  simp only[wr x (by omega),wr y (by omega),wr (x * 131) (by omega),wr (y * 1117) (by omega),wr (d * 53) (by omega),wr (x * 131+y * 1117) (by omega),wr (x * 131+y * 1117+r.p * 29) (by omega),wr (x * 131+y * 1117+r.p * 29+d * 53) (by omega)]
  have u:=tO (x * 131+y * 1117+r.p * 29+d * 53) 64 (by omega) (by omega)
  have v:=FP (x * 131+y * 1117+r.p * 29+d * 53) (dh .quo .i64 (x * 131+y * 1117+r.p * 29+d * 53) 64) (by omega) (by rw[u.1];omega)
  rw[ru _ n v (by omega)]
  exact⟨_,_,rfl,Int.emod_nonneg _ (by omega),fun _=>Int.emod_lt_of_pos _ (by omega),fun h=>absurd h hn1,hr'⟩
theorem fY (r:Gl14Rd) (l:List Int) (m:Int) (h:dO r m) (hm:m≤1000000000) (hl:1≤l.length∧l.length<1000):∃v r',bB.f r l=some (v,r')∧v∈l∧dO r' (m+1):=by
 obtain⟨v,r',h1,h2,h3,h4,h5⟩:=kj r l.length m h hm (by omega)
 have hv:=h3 (by omega)
 unfold bB.f
 rw[h1]
 simp only[Option.bind_some]
 rw[ae h2,List.getElem?_eq_getElem (show v.toNat<l.length by omega)]
 exact⟨_,_,rfl,List.getElem_mem _,h5⟩
theorem Bz (l:List Int) (hl:l.length≤1048576) (hb:∀y∈l,0≤y∧y≤255):∃r,iV.f l=some r∧dO r 0:=by
 unfold iV.f
 by_cases h:2000<(l.length:Int)
 ·rw[if_pos h,ae (by omega),ae (by omega),ae (by omega)]
  exact⟨_,rfl,fun x hx=>hb x (List.mem_of_mem_take hx),by simp;omega,by dsimp only;omega,by dsimp only;omega⟩
 ·rw[if_neg h]
  exact⟨_,rfl,hb,hl,by dsimp only;omega,by dsimp only;omega⟩
theorem jN:∀l m:List GEx,cl (l++m)=cl l+cl m
 |[],m=>by simp[eS]
 |x::l,m=>by rw[List.cons_append,cS,cS,jN l m];omega
theorem lm (x:GEx):cl [x]=exN x:=by rw[cS,eS];omega
theorem tD (a b c:Int):exN ⟨a,b,c,[]⟩=1:=by rw[cK,eS]
theorem Bf (k:Nat) (rec':Gl14Rd→Int→Option (GEx×Gl14Rd)) (p1:Int) (B N:Nat) (M:Int)
  (H:∀(r:Gl14Rd) (m:Int),dO r m→m≤M→∃x r',rec' r (IntKind.wrap .i64 (p1-1))=some (x,r')∧dO r' (m+B)∧exN x≤N) :
  ∀(c n:Nat) (b:List Int) (p m:Int) (acc:List GEx),c<n→c≤3→dO ⟨b,p⟩ m→m+c * B≤M+B→cl acc+c * N≤1000000→
   ∃acc' b' p',bk.l0 k rec' p1 n b p acc (c:Int)=some (acc',b',p')∧dO ⟨b',p'⟩ (m+c * B)∧cl acc'≤cl acc+c * N:=by
 intro c
 induction c with
 |zero=>
  intro n b p m acc hn hc hr hm ha
  obtain⟨n,rfl⟩:∃m,n=m+1:=⟨n-1,by omega⟩
  rw[bk.l0,if_neg (by omega)]
  exact⟨_,_,_,rfl,by simpa using hr,by simp⟩
 |succ c ih=>
  intro n b p m acc hn hc hr hm ha
  obtain⟨n,rfl⟩:∃m,n=m+1:=⟨n-1,by omega⟩
  have hcB:((c+1:Nat):Int) * B=c * B+B:=by rw[Int.natCast_succ,Int.add_mul];omega
  have hcN:(c+1) * N=c * N+N:=Nat.succ_mul c N
  have hcB0:(0:Int)≤c * B:=Int.mul_nonneg (by omega) (by omega)
  obtain⟨x,r',e1,e2,e3⟩:=H ⟨b,p⟩ m hr (by omega)
  have hla:=ga acc
  rw[bk.l0,if_pos (by omega),e1]
  simp only[Option.bind_some]
  rw[ae (by omega),wrP c (by omega)]
  obtain⟨acc',b',p',q1,q2,q3⟩:=ih n r'.b r'.p (m+B) (acc++[x]) (by omega) (by omega) e2 (by omega) (by rw[jN,lm];omega)
  refine⟨acc',b',p',q1,q2.mono (by omega),?_⟩
  rw[jN,lm] at q3
  omega
theorem BL (k:Nat) (rec':Gl14Rd→Int→Option (GEx×Gl14Rd)) (p1:Int) (B N:Nat) (M:Int)
  (H:∀(r:Gl14Rd) (m:Int),dO r m→m≤M→∃x r',rec' r (IntKind.wrap .i64 (p1-1))=some (x,r')∧dO r' (m+B)∧exN x≤N) :
  ∀(c n:Nat) (b:List Int) (p m:Int) (acc:List GEx),c<n→c≤3→dO ⟨b,p⟩ m→m+c * B≤M+B→cl acc+c * N≤1000000→
   ∃acc' b' p',bk.l1 k rec' p1 n b p acc (c:Int)=some (acc',b',p')∧dO ⟨b',p'⟩ (m+c * B)∧cl acc'≤cl acc+c * N:=by
 intro c
 induction c with
 |zero=>
  intro n b p m acc hn hc hr hm ha
  obtain⟨n,rfl⟩:∃m,n=m+1:=⟨n-1,by omega⟩
  rw[bk.l1,if_neg (by omega)]
  exact⟨_,_,_,rfl,by simpa using hr,by simp⟩
 |succ c ih=>
  intro n b p m acc hn hc hr hm ha
  obtain⟨n,rfl⟩:∃m,n=m+1:=⟨n-1,by omega⟩
  have hcB:((c+1:Nat):Int) * B=c * B+B:=by rw[Int.natCast_succ,Int.add_mul];omega
  have hcN:(c+1) * N=c * N+N:=Nat.succ_mul c N
  have hcB0:(0:Int)≤c * B:=Int.mul_nonneg (by omega) (by omega)
  obtain⟨x,r',e1,e2,e3⟩:=H ⟨b,p⟩ m hr (by omega)
  have hla:=ga acc
  rw[bk.l1,if_pos (by omega),e1]
  simp only[Option.bind_some]
  rw[ae (by omega),wrP c (by omega)]
  obtain⟨acc',b',p',q1,q2,q3⟩:=ih n r'.b r'.p (m+B) (acc++[x]) (by omega) (by omega) e2 (by omega) (by rw[jN,lm];omega)
  refine⟨acc',b',p',q1,q2.mono (by omega),?_⟩
  rw[jN,lm] at q3
  omega
theorem Du {v:Int} (h:v∈([2,3,3,4,4,4,5,6,7]:List Int)):∃c:Nat,gK v=(c:Int)∧c≤3:=by
 simp only[List.mem_cons,List.not_mem_nil,or_false] at h
 rcases h with rfl|rfl|rfl|rfl|rfl|rfl|rfl|rfl|rfl
 all_goals first|exact⟨2,rfl,by omega⟩|exact⟨3,rfl,by omega⟩|exact⟨1,rfl,by omega⟩
theorem CW:∀(d:Nat),d≤4→∀(k:Nat),1000000000000+d≤k→∀(r:Gl14Rd) (m:Int),dO r m→m≤100000000-10 ^ (d+1)→∃x r',bk.f k r (d:Int)=some (x,r')∧dO r' (m+(10 ^ (d+1):Nat))∧exN x≤4 ^ d:=by
 intro d
 induction d with
 |zero=>
  intro hd k hk r m hr hm
  obtain⟨k,rfl⟩:∃m,k=m+1:=⟨k-1,by omega⟩
  obtain⟨v,r',h1,h2,h3⟩:=fY r [0,0,1,1,2,2,3,4] m hr (by omega) (by simp)
  rw[bk.f,if_neg (by omega),h1]
  exact⟨_,_,rfl,h3.mono (by omega),by rw[tD];simp⟩
 |succ d ih=>
  intro hd k hk r m hr hm
  obtain⟨k,rfl⟩:∃m,k=m+1:=⟨k-1,by omega⟩
  have p10:(10:Nat) ^ (d+1+1)=10 ^ (d+1) * 10:=Nat.pow_succ ..
  have p10i:(10:Int) ^ (d+1+1)=10 ^ (d+1) * 10:=Int.pow_succ ..
  have c10:((10 ^ (d+1):Nat):Int)=(10:Int) ^ (d+1):=by push_cast;rfl
  have b10:10≤(10:Nat) ^ (d+1):=by rw[Nat.pow_succ];have:=Nat.one_le_pow d 10 (by omega);omega
  have p4:(4:Nat) ^ (d+1)=4 ^ d * 4:=Nat.pow_succ ..
  have b4:1≤(4:Nat) ^ d:=Nat.one_le_pow d 4 (by omega)
  have t4:(4:Nat) ^ d≤4 ^ 3:=Nat.pow_le_pow_right (by omega) (by omega)
  have t10:(10:Nat) ^ (d+1)≤10 ^ 4:=Nat.pow_le_pow_right (by omega) (by omega)
  rw[bk.f]
  by_cases h1:1<((d+1:Nat):Int)
  rotate_left
  ·rw[if_neg h1]
   obtain⟨v,r',e1,e2,e3⟩:=fY r [0,0,1,1,2,2,3,4] m hr (by omega) (by simp)
   rw[e1]
   exact⟨_,_,rfl,e3.mono (by omega),by rw[tD];omega⟩
  rw[if_pos h1]
  obtain⟨v,r1,e1,e2,e3,e4,e5⟩:=kj r 4 m hr (by omega) (by omega)
  rw[e1]
  simp only[Option.bind_some]
  by_cases h2:v=0
  ·rw[if_pos h2]
   obtain⟨v,r',g1,g2,g3⟩:=fY r1 [0,0,1,1,2,2,3,4] (m+1) e5 (by omega) (by simp)
   rw[g1]
   exact⟨_,_,rfl,g3.mono (by omega),by rw[tD];omega⟩
  rw[if_neg h2]
  obtain⟨kd,r2,g1,g2,g3⟩:=fY r1 [2,3,3,4,4,4,5,6,7] (m+1) e5 (by omega) (by simp)
  rw[g1]
  simp only[Option.bind_some]
  obtain⟨c,hc,hc3⟩:=Du g2
  have H:∀(r:Gl14Rd) (m:Int),dO r m→m≤100000000-10 ^ (d+1)→∃x r',bk.f k r (IntKind.wrap .i64 (((d+1:Nat):Int)-1))=some (x,r')∧dO r' (m+(10 ^ (d+1):Nat))∧exN x≤4 ^ d:=fun r m hr hm=>by
   rw[wrP d (by omega)]
   exact ih (by omega) k (by omega) r m hr hm
  have fin:∀(acc:List GEx),cl acc≤cl []+c * 4 ^ d→1+cl acc≤4 ^ (d+1):=fun acc h=>by
   have:c * 4 ^ d≤3 * 4 ^ d:=Nat.mul_le_mul_right _ hc3
   rw[eS] at h
   omega
  have cB:(c:Int) * (10 ^ (d+1):Nat)≤3 * (10 ^ (d+1):Nat):=Int.mul_le_mul_of_nonneg_right (by omega) (by omega)
  have cN:c * 4 ^ d≤3 * 4 ^ d:=Nat.mul_le_mul_right _ hc3
  by_cases h3:kd=7
  ·rw[if_pos h3]
   obtain⟨n,r3,f1,f2,f3⟩:=fY r2 [1,2,3,5,20] (m+1+1) g3 (by omega) (by simp)
   rw[f1,rC,hc]
   simp only[Option.bind_some]
   obtain⟨acc,b',p',q1,q2,q3⟩:=Bf k (bk.f k) ((d+1:Nat):Int) (10 ^ (d+1)) (4 ^ d) (100000000-10 ^ (d+1)) H c k r3.b r3.p (m+1+1+1) [] (by omega) hc3 f3 (by omega) (by rw[eS];omega)
   rw[q1]
   exact⟨_,_,rfl,q2.mono (by omega),by rw[cK];exact fin acc q3⟩
  ·rw[if_neg h3]
   rw[rC,hc]
   simp only[Option.bind_some]
   obtain⟨acc,b',p',q1,q2,q3⟩:=BL k (bk.f k) ((d+1:Nat):Int) (10 ^ (d+1)) (4 ^ d) (100000000-10 ^ (d+1)) H c k r2.b r2.p (m+1+1) [] (by omega) hc3 g3 (by omega) (by rw[eS];omega)
   rw[q1]
   exact⟨_,_,rfl,q2.mono (by omega),by rw[cK];exact fin acc q3⟩
theorem y8 (k:Nat) (hk:2000000000000≤k) (r:Gl14Rd) (m:Int) (hr:dO r m) (hm:m≤90000000):∃x r',iC.f k r=some (x,r')∧dO r' (m+200000)∧exN x≤256:=by
 unfold iC.f
 obtain⟨v,r1,e1,e2,e3,e4,e5⟩:=kj r 4 m hr (by omega) (by omega)
 have hv:=e3 (by omega)
 rw[e1]
 simp only[Option.bind_some]
 rw[wr (1+v) (by omega)]
 obtain⟨d,hd⟩:∃d:Nat,1+v=(d:Int):=⟨(1+v).toNat,by omega⟩
 have t4:(4:Nat) ^ d≤4 ^ 4:=Nat.pow_le_pow_right (by omega) (by omega)
 have t10:(10:Nat) ^ (d+1)≤10 ^ 5:=Nat.pow_le_pow_right (by omega) (by omega)
 have t10i:((10 ^ (d+1):Nat):Int)=(10:Int) ^ (d+1):=by push_cast;rfl
 obtain⟨x,r2,g1,g2,g3⟩:=CW d (by omega) k (by omega) r1 (m+1) e5 (by omega)
 rw[hd,g1]
 simp only[Option.bind_some]
 rw[od x (by omega) k (by omega)]
 simp only[Option.bind_some]
 split
 ·exact⟨_,_,rfl,g2.mono (by omega),by omega⟩
 ·obtain⟨y,r3,f1,f2,f3⟩:=CW 2 (by omega) k (by omega) r2 (m+1+(10 ^ (d+1):Nat)) g2 (by omega)
  rw[show(2:Int)=((2:Nat):Int) from rfl,f1]
  exact⟨_,_,rfl,f2.mono (by omega),by show exN y≤256;omega⟩
theorem zS (k:Nat) (rec':GEx→Option GEx) (e:GEx) (hl:e.Kids.length≤1000000) (H:∀y∈e.Kids,rec' y=some y):∀(d i n:Nat) (acc:List GEx),i+d=e.Kids.length→d<n→acc=e.Kids.take i→cm.l0 k rec' e n acc (i:Int)=some e.Kids:=by
 intro d
 induction d with
 |zero=>
  intro i n acc hi hn ha
  obtain⟨n,rfl⟩:∃m,n=m+1:=⟨n-1,by omega⟩
  rw[cm.l0,if_neg (by omega),ha,List.take_of_length_le (by omega)]
 |succ d ih=>
  intro i n acc hi hn ha
  obtain⟨n,rfl⟩:∃m,n=m+1:=⟨n-1,by omega⟩
  have h:i<e.Kids.length:=by omega
  rw[cm.l0,if_pos (by omega),ae (by omega),Int.toNat_natCast,List.getElem?_eq_getElem h]
  simp only[Option.bind_some,H _ (List.getElem_mem h)]
  have hal:acc.length≤e.Kids.length:=by rw[ha,List.length_take];omega
  rw[ae (by omega),wrS i (by omega)]
  refine ih (i+1) n _ (by omega) (by omega) ?_
  rw[ha,List.take_add_one,List.getElem?_eq_getElem h];rfl
theorem D6:∀e:GEx,exN e≤1000000→∀k:Nat,1000000000000+exN e≤k→cm.f k e=some e:=by
 refine eC fun e ih hn k hk=>?_
 rw[cK] at hn hk
 obtain⟨k,rfl⟩:∃m,k=m+1:=⟨k-1,by omega⟩
 have hq:=ga e.Kids
 have:=zS k (cm.f k) e (by omega) (fun y hy=>by have:=dQ hy;exact ih y hy (by omega) k (by omega)) e.Kids.length 0 k [] (by omega) (by omega) (by simp)
 rw[show((0:Nat):Int)=0 from rfl] at this
 rw[cm.f,this];cases e;rfl
theorem AO (k:Nat):∀(c n:Nat) (a b d:Int) (ks:List GEx),c≤5→c<n→cl ks+c≤100000→∃a' b' d' ks',bQ.l0 k n a b d ks (5-(c:Int))=some (a',b',d',ks')∧cl ks'≤cl ks+c:=by
 intro c
 induction c with
 |zero=>
  intro n a b d ks hc hn hk
  obtain⟨n,rfl⟩:∃m,n=m+1:=⟨n-1,by omega⟩
  rw[bQ.l0,if_neg (by omega)]
  exact⟨_,_,_,_,rfl,by omega⟩
 |succ c ih=>
  intro n a b d ks hc hn hk
  obtain⟨n,rfl⟩:∃m,n=m+1:=⟨n-1,by omega⟩
  rw[bQ.l0,if_pos (by omega),wr _ (by omega),show 5-((c+1:Nat):Int)+1=5-(c:Int) by omega]
  have e:cl [(⟨a,b,d,ks⟩:GEx)]=1+cl ks:=by rw[lm,cK]
  obtain⟨a',b',d',ks',h1,h2⟩:=ih n 7 0 1 [⟨a,b,d,ks⟩] (by omega) (by omega) (by omega)
  exact⟨_,_,_,_,h1,by omega⟩
theorem Be (k:Nat) (hk:2000000000000≤k):∀(c n:Nat) (a b d:Int) (ks:List GEx),c≤4→c<n→(cl ks+3) * 2 ^ c≤100000→∃a' b' d' ks',bQ.l1 k n a b d ks (4-(c:Int))=some (a',b',d',ks')∧cl ks'≤100000:=by
 intro c
 induction c with
 |zero=>
  intro n a b d ks hc hn hk
  obtain⟨n,rfl⟩:∃m,n=m+1:=⟨n-1,by omega⟩
  rw[bQ.l1,if_neg (by omega)]
  exact⟨_,_,_,_,rfl,by omega⟩
 |succ c ih=>
  intro n a b d ks hc hn hks
  obtain⟨n,rfl⟩:∃m,n=m+1:=⟨n-1,by omega⟩
  have p2:(2:Nat) ^ (c+1)=2 ^ c * 2:=Nat.pow_succ ..
  have b2:1≤(2:Nat) ^ c:=Nat.one_le_pow c 2 (by omega)
  have e:exN (⟨a,b,d,ks⟩:GEx)=1+cl ks:=by rw[cK]
  have m2:(cl ks+3) * 2 ^ (c+1)=(2 * (cl ks+3)) * 2 ^ c:=by rw[p2,Nat.mul_comm (2 ^ c) 2,←Nat.mul_assoc,Nat.mul_comm (cl ks+3) 2]
  have m3:2 * (cl ks+3)≤2 * (cl ks+3) * 2 ^ c:=Nat.le_mul_of_pos_right _ (by omega)
  rw[bQ.l1,if_pos (by omega),D6 _ (by omega) k (by omega),wr _ (by omega),show 4-((c+1:Nat):Int)+1=4-(c:Int) by omega]
  simp only[Option.bind_some]
  have e2:cl [(⟨a,b,d,ks⟩:GEx),⟨a,b,d,ks⟩]=2 * (cl ks+1):=by rw[cS,lm];omega
  refine ih n 2 0 0 _ (by omega) (by omega) ?_
  rw[e2]
  exact Nat.le_trans (Nat.mul_le_mul_right (m:=2 * (cl ks+3)) _ (by omega)) (by rw[←m2];exact hks)
theorem Dw (k:Nat) (hk:2000000000000≤k) (r:Gl14Rd) (m:Int) (hr:dO r m) (hm:m≤80000000):∃x r',bQ.f k r=some (x,r')∧dO r' (m+300000)∧exN x≤100001:=by
 unfold bQ.f
 obtain⟨x,r1,e1,e2,e3⟩:=y8 k hk r m hr (by omega)
 rw[e1]
 simp only[Option.bind_some]
 obtain⟨v,r2,g1,g2,g3,g4,g5⟩:=kj r1 60 (m+200000) e2 (by omega) (by omega)
 rw[g1]
 simp only[Option.bind_some]
 have hx:cl x.Kids≤256:=by rw[cK] at e3;omega
 have fin:∀a b c,exN (⟨a,b,c,x.Kids⟩:GEx)≤100001:=fun a b c=>by rw[cK];show 1+cl x.Kids≤_;omega
 split
 ·obtain⟨w,r3,f1,f2,f3⟩:=fY r2 [0,8,2,5] (m+200000+1) g5 (by omega) (by simp)
  rw[f1]
  exact⟨_,_,rfl,f3.mono (by omega),fin _ _ _⟩
 split
 ·obtain⟨w,r3,f1,f2,f3⟩:=fY r2 [(-1),5,1] (m+200000+1) g5 (by omega) (by simp)
  rw[f1]
  exact⟨_,_,rfl,f3.mono (by omega),fin _ _ _⟩
 split
 ·obtain⟨w,r3,f1,f2,f3⟩:=fY r2 [(-1),21,1,0] (m+200000+1) g5 (by omega) (by simp)
  rw[f1]
  exact⟨_,_,rfl,f3.mono (by omega),fin _ _ _⟩
 split
 ·obtain⟨a',b',d',ks',q1,q2⟩:=AO k 5 k x.Kind x.Sym x.N x.Kids (by omega) (by omega) (by omega)
  rw[show(5:Int)-((5:Nat):Int)=0 from rfl] at q1
  rw[q1]
  exact⟨_,_,rfl,g5.mono (by omega),by rw[cK];show 1+cl ks'≤_;omega⟩
 split
 ·obtain⟨a',b',d',ks',q1,q2⟩:=Be k hk 4 k x.Kind x.Sym x.N x.Kids (by omega) (by omega) (by omega)
  rw[show(4:Int)-((4:Nat):Int)=0 from rfl] at q1
  rw[q1]
  exact⟨_,_,rfl,g5.mono (by omega),by rw[cK];show 1+cl ks'≤_;omega⟩
 ·exact⟨_,_,rfl,g5.mono (by omega),by show exN x≤_;omega⟩
theorem AJ (k:Nat):∀(c n:Nat) (b:List Int) (p m at':Int) (acc:List GEv),c<n→c≤100→dO ⟨b,p⟩ m→m+3 * c≤1000000000→0≤at'→at'+7 * c≤1000000→acc.length+c≤1000→
  ∃acc' b' p',cY.l0 k n b p acc at' (c:Int)=some (acc',b',p')∧dO ⟨b',p'⟩ (m+3 * c)∧acc'.length=acc.length+c:=by
 intro c
 induction c with
 |zero=>
  intro n b p m at' acc hn hc hr hm h0 h1 ha
  obtain⟨n,rfl⟩:∃m,n=m+1:=⟨n-1,by omega⟩
  rw[cY.l0,if_neg (by omega)]
  exact⟨_,_,_,rfl,hr.mono (by omega),by omega⟩
 |succ c ih=>
  intro n b p m at' acc hn hc hr hm h0 h1 ha
  obtain⟨n,rfl⟩:∃m,n=m+1:=⟨n-1,by omega⟩
  obtain⟨v,r1,e1,e2,e3⟩:=fY ⟨b,p⟩ [1,1,1,2,3,7] m hr (by omega) (by simp)
  obtain⟨w,r2,f1,f2,f3⟩:=fY r1 [0,0,1,1,2,2,3,4] (m+1) e3 (by omega) (by simp)
  obtain⟨u,r3,g1,g2,g3⟩:=fY r2 [0,0,1,5,100] (m+1+1) f3 (by omega) (by simp)
  have hv:1≤v∧v≤7:=by
   simp only[List.mem_cons,List.not_mem_nil,or_false] at e2
   omega
  rw[cY.l0,if_pos (by omega),e1]
  simp only[Option.bind_some]
  rw[f1]
  simp only[Option.bind_some]
  rw[g1]
  simp only[Option.bind_some]
  rw[ae (by omega),wr (at'+v) (by omega),wrP c (by omega)]
  obtain⟨acc',b',p',q1,q2,q3⟩:=ih n r3.b r3.p (m+1+1+1) (at'+v) (acc++[⟨w,at'+v,u⟩]) (by omega) (by omega) g3 (by omega) (by omega) (by omega) (by simp;omega)
  exact⟨acc',b',p',q1,q2.mono (by omega),by rw[q3];simp;omega⟩
theorem rK (k:Nat) (hk:1000≤k) (r:Gl14Rd) (m:Int) (hr:dO r m) (hm:m≤1000000) (q:Nat) (hq:q≤50):∃l r',cY.f k r (q:Int)=some (l,r')∧dO r' (m+200)∧l.length≤q:=by
 unfold cY.f
 rw[wrS q (by omega)]
 obtain⟨v,r1,e1,e2,e3,e4,e5⟩:=kj r ((q+1:Nat):Int) m hr (by omega) (by omega)
 have hv:=e3 (by omega)
 rw[e1]
 simp only[Option.bind_some]
 obtain⟨c,rfl⟩:∃c:Nat,v=(c:Int):=⟨v.toNat,by omega⟩
 obtain⟨acc',b',p',q1,q2,q3⟩:=AJ k c k r1.b r1.p (m+1) 0 [] (by omega) (by omega) e5 (by omega) (by omega) (by omega) (by simp;omega)
 rw[q1]
 exact⟨_,_,rfl,q2.mono (by omega),by rw[q3];simp;omega⟩
theorem zE (k:Nat):∀(d n:Nat) (l:List GEv),l.length+d=25→d<n→1≤l.length→∃l',dp.l0 k n l=some l'∧l'.length=25:=by
 intro d
 induction d with
 |zero=>
  intro n l hl hn h1
  obtain⟨n,rfl⟩:∃m,n=m+1:=⟨n-1,by omega⟩
  rw[dp.l0,if_pos (by omega)]
  exact⟨l,rfl,by omega⟩
 |succ d ih=>
  intro n l hl hn h1
  obtain⟨n,rfl⟩:∃m,n=m+1:=⟨n-1,by omega⟩
  obtain⟨j,hj⟩:∃j,l.length=j+1:=⟨l.length-1,by omega⟩
  have ej:IntKind.wrap .i64 (((l.length:Nat):Int)-1)=(j:Int):=by rw[hj];exact wrP j (by omega)
  rw[dp.l0,if_neg (by omega),ej,ae (by omega),ae (by omega),Int.toNat_natCast,List.getElem?_eq_getElem (show j<l.length by omega)]
  simp only[Option.bind_some]
  rw[ae (by omega)]
  exact ih n _ (by simp;omega) (by omega) (by simp)
theorem Dc (k:Nat) (hk:1000≤k) (r:Gl14Rd) (m:Int) (hr:dO r m) (hm:m≤1000000):∃l r',dp.f k r=some (l,r')∧dO r' (m+300)∧l.length≤25:=by
 unfold dp.f
 obtain⟨l,r1,e1,e2,e3⟩:=rK k hk r m hr hm 12 (by omega)
 rw[show(12:Int)=((12:Nat):Int) from rfl,e1]
 simp only[Option.bind_some]
 by_cases h0:((l.length:Nat):Int)=0
 ·rw[if_pos h0];exact⟨_,_,rfl,e2.mono (by omega),by show l.length≤25;omega⟩
 rw[if_neg h0]
 obtain⟨v,r2,f1,f2,f3,f4,f5⟩:=kj r1 ((l.length:Nat):Int) (m+200) e2 (by omega) (by omega)
 have hv:=f3 (by omega)
 rw[f1]
 simp only[Option.bind_some]
 obtain⟨i,rfl⟩:∃i:Nat,v=(i:Int):=⟨v.toNat,by omega⟩
 have hi:i<l.length:=by omega
 obtain⟨w,r3,g1,g2,g3,g4,g5⟩:=kj r2 40 (m+200+1) f5 (by omega) (by omega)
 rw[g1]
 simp only[Option.bind_some]
 split
 ·obtain⟨u,r4,q1,q2,q3⟩:=fY r3 [(-1),5] (m+200+1+1) g5 (by omega) (by simp)
  rw[q1]
  simp only[Option.bind_some]
  rw[ae (by omega),ae (by omega),Int.toNat_natCast,List.getElem?_eq_getElem hi]
  exact⟨_,_,rfl,q3.mono (by omega),by simp;omega⟩
 split
 ·rw[ae (by omega),ae (by omega),List.getElem?_eq_getElem (show 0<l.length by omega)]
  simp only[Option.bind_some]
  obtain⟨u,r4,q1,q2,q3⟩:=fY r3 [0,1001,l[0].At] (m+200+1+1) g5 (by omega) (by simp)
  rw[q1]
  simp only[Option.bind_some]
  rw[ae (by omega),ae (by omega),Int.toNat_natCast,List.getElem?_eq_getElem hi]
  exact⟨_,_,rfl,q3.mono (by omega),by simp;omega⟩
 split
 ·obtain⟨u,r4,q1,q2,q3⟩:=fY r3 [(-1),101] (m+200+1+1) g5 (by omega) (by simp)
  rw[q1]
  simp only[Option.bind_some]
  rw[ae (by omega),ae (by omega),Int.toNat_natCast,List.getElem?_eq_getElem hi]
  exact⟨_,_,rfl,q3.mono (by omega),by simp;omega⟩
 split
 ·obtain⟨l',q1,q2⟩:=zE k (25-l.length) k l (by omega) (by omega) (by omega)
  rw[q1]
  exact⟨_,_,rfl,g5.mono (by omega),by show l'.length≤25;omega⟩
 ·exact⟨_,_,rfl,g5.mono (by omega),by show l.length≤25;omega⟩
theorem C7 (r:Gl14Rd) (m:Int) (hr:dO r m) (hm:m≤1000000):∃v r',jI.f r=some (v,r')∧dO r' (m+1)∧ -1≤v∧v≤5:=by
 unfold jI.f
 obtain⟨v,r1,e1,e2,e3⟩:=fY r [0,1,2,3,4,0,1,2,3,4,0,1,2,3,4,(-1),5] m hr (by omega) (by simp)
 rw[e1]
 refine⟨v,r1,rfl,e3,?_⟩
 simp only[List.mem_cons,List.not_mem_nil,or_false] at e2
 omega
theorem Dz (k:Nat) (hk:2000000000000≤k) (r:Gl14Rd) (m:Int) (hr:dO r m) (hm:m≤100000):∃x mode l r',jH.f k r=some (x,mode,l,r')∧dO r' (m+900000)∧exN x≤100001∧l.length≤25∧ -1≤mode∧mode≤5:=by
 unfold jH.f
 obtain⟨x,r1,e1,e2,e3⟩:=y8 k hk r m hr (by omega)
 rw[e1]
 simp only[Option.bind_some]
 obtain⟨mode,r2,f1,f2,f3⟩:=C7 r1 (m+200000) e2 (by omega)
 rw[f1]
 simp only[Option.bind_some]
 obtain⟨v,r3,g1,g2,g3,g4,g5⟩:=kj r2 30 (m+200000+1) f2 (by omega) (by omega)
 rw[g1]
 simp only[Option.bind_some]
 split
 ·obtain⟨y,r4,q1,q2,q3⟩:=Dw k hk r3 (m+200000+1+1) g5 (by omega)
  rw[q1]
  simp only[Option.bind_some]
  obtain⟨l,r5,s1,s2,s3⟩:=rK k (by omega) r4 (m+200000+1+1+300000) q2 (by omega) 10 (by omega)
  rw[show(10:Int)=((10:Nat):Int) from rfl,s1]
  exact⟨_,_,_,_,rfl,s2.mono (by omega),q3,by show l.length≤25;omega,f3⟩
 split
 ·obtain⟨l,r5,s1,s2,s3⟩:=Dc k (by omega) r3 (m+200000+1+1) g5 (by omega)
  rw[s1]
  exact⟨_,_,_,_,rfl,s2.mono (by omega),by show exN x≤_;omega,s3,f3⟩
 split
 ·obtain⟨l,r5,s1,s2,s3⟩:=rK k (by omega) r3 (m+200000+1+1) g5 (by omega) 24 (by omega)
  rw[show(24:Int)=((24:Nat):Int) from rfl,s1]
  exact⟨_,_,_,_,rfl,s2.mono (by omega),by show exN x≤_;omega,by show l.length≤25;omega,f3⟩
 ·obtain⟨l,r5,s1,s2,s3⟩:=rK k (by omega) r3 (m+200000+1+1) g5 (by omega) 11 (by omega)
  rw[show(11:Int)=((11:Nat):Int) from rfl,s1]
  exact⟨_,_,_,_,rfl,s2.mono (by omega),by show exN x≤_;omega,by show l.length≤25;omega,f3⟩
theorem xr (k:Nat) (l:List GOcc) (hl:l.length≤40000000000) (hm:xD l 1000) (hk:1000000000000≤k):∀(d n i:Nat),i+d=l.length→d<n→
  bF.l0 k (fun y0 y1=>fm.f k y0 y1) l l n (i:Int)=some (.ok ()):=by
 intro d
 induction d with
 |zero=>
  intro n i hi hn
  obtain⟨n,rfl⟩:∃m,n=m+1:=⟨n-1,by omega⟩
  rw[bF.l0,if_neg (by omega)]
 |succ d ih=>
  intro n i hi hn
  obtain⟨n,rfl⟩:∃m,n=m+1:=⟨n-1,by omega⟩
  have hlt:i<l.length:=by omega
  have hb:=hm l[i] (List.getElem_mem hlt)
  rw[bF.l0,if_pos (by omega),ae (by omega),Int.toNat_natCast,List.getElem?_eq_getElem hlt]
  simp only[Option.bind_some]
  rw[ae (by omega)]
  simp only[fm.f,kt l[i] l[i] (by omega) k (by omega),iz,Option.bind_some,BEq.rfl,if_true]
  rw[wrS i (by omega)]
  exact ih n (i+1) (by omega) (by omega)
theorem xm (k:Nat) (l:List GOcc) (hl:l.length≤40000000000) (hm:xD l 1000) (hk:1000000000000≤k):dU.f k l l=some true:=by
 unfold dU.f bF.f
 have:=xr k l hl hm hk l.length k 0 (by omega) (by omega)
 rw[show((0:Nat):Int)=0 from rfl] at this
 rw[if_pos rfl,this];rfl
def vE (a b i:Nat) (s:List GOcc×List GOcc×List GOcc):Prop:=Ok (a+i) s.1∧Ok b s.2.1∧Ok (i * b) s.2.2
theorem vE.half {a b i:Nat} {mode:Int} {s:List GOcc×List GOcc×List GOcc} {o:GOcc} (h:vE a b i s) (ho:cy o.Ids):vE a b (i+1) (eg mode s o):=by
 obtain⟨x,y,z⟩:=pJ (mode:=mode) h.1 h.2.1 h.2.2 ho
 refine⟨x,y,z.mono ?_⟩
 rw[Nat.succ_mul];exact Nat.le_refl _
def tn (a b e i:Nat) (s:List GOcc×List GOcc×List GOcc):Prop:=Ok a s.1∧Ok (b+i) s.2.1∧Ok (e+i * a) s.2.2
theorem tn.other {a b e i:Nat} {mode:Int} {s:List GOcc×List GOcc×List GOcc} {o:GOcc} (h:tn a b e i s) (ho:cy o.Ids):tn a b e (i+1) (iv mode s o):=by
 obtain⟨x,y,z⟩:=pJ (mode:=mode) (s:=(s.2.1,s.1,s.2.2)) h.2.1 h.1 h.2.2 ho
 refine⟨y,x,z.mono ?_⟩
 rw[Nat.succ_mul];omega
theorem AB {mode:Int} {l r left right:List GOcc} {a b c d:Nat} (h1:Ok a l) (h2:Ok b r) (hl:Ids left) (hr:Ids right) (hc:left.length≤c) (hd:right.length≤d) :
  tn (a+c) b (c * b) d (eN mode l r left right):=by
 have a1:=nL (eg mode) (vE a b) left 0 (l,r,[]) (fun j s h hI=>by rw[Nat.zero_add] at *;exact hI.half (hl _ (List.getElem_mem h))) ⟨h1,h2,by simpa using Ok.nil 0⟩
 rw[Nat.zero_add] at a1
 have a2:=nL (iv mode) (tn (a+c) b (c * b)) right 0 (left.foldl (eg mode) (l,r,[])) (fun j s h hI=>by rw[Nat.zero_add] at *;exact hI.other (hr _ (List.getElem_mem h)))
  ⟨a1.1.mono (by omega),a1.2.1,a1.2.2.mono (by have:=Nat.mul_le_mul_right b hc;omega)⟩
 rw[Nat.zero_add] at a2
 exact⟨a2.1,a2.2.1.mono (by omega),a2.2.2.mono (by have:=Nat.mul_le_mul_right (a+c) hd;omega)⟩
theorem Ak (k:Nat) (hk:1000000000000≤k) (mode:Int) (p:aB) (left right:List GOcc) (a b c d:Nat) (h1:Ok a p.Left) (h2:Ok b p.Right) (hl:Ids left) (hr:Ids right) (hc:left.length≤c) (hd:right.length≤d) (hB:c * b+d * (a+c)+a+b+c+d≤40000000000) :
  aL.f k p mode left right=some (⟨(eN mode p.Left p.Right left right).1,(eN mode p.Left p.Right left right).2.1⟩,(eN mode p.Left p.Right left right).2.2):=by
 have a1:=dM (fun s:List GOcc×List GOcc×List GOcc=>s) left (fun s e=>((aK.f k mode e s.2.1).bind fun x48=>((aO.f k s.2.2 x48.1).bind fun x51=>((bj.f k s.2.1 x48.2).bind fun x54=>((eE.f k mode s.1 e ((x48.1.length:Int)==0)).bind fun x57=>some (x57,x54,x51)))))) (fun n s i=>aL.l0 k mode left n s.1 s.2.1 s.2.2 i) (eg mode) (vE a b)
  (fun n s=>by rw[aL.l0,if_neg (by omega)])
  (fun n s i h=>by
   rw[aL.l0,if_pos (by omega),ae (by omega),Int.toNat_natCast,List.getElem?_eq_getElem h]
   simp only[Option.bind_some,Option.bind_assoc]
   rw[wrS i (by omega)])
  (fun i s h hI=>⟨nQ k hk mode s.1 s.2.1 s.2.2 _ (a+i) b _ (by omega) (by omega) (by have:=Nat.mul_le_mul_right b (show i≤c by omega);omega) hI.1 hI.2.1 hI.2.2 (hl _ (List.getElem_mem h)),hI.half (hl _ (List.getElem_mem h))⟩)
  k (p.Left,p.Right,[]) (by omega) ⟨h1,h2,by simpa using Ok.nil 0⟩
 have a2:=dM (fun s:List GOcc×List GOcc×List GOcc=>s) right (fun s e=>((aK.f k mode e s.1).bind fun x48=>((aO.f k s.2.2 x48.1).bind fun x51=>((bj.f k s.1 x48.2).bind fun x54=>((eE.f k mode s.2.1 e ((x48.1.length:Int)==0)).bind fun x57=>some (x54,x57,x51)))))) (fun n s i=>aL.l1 k mode right n s.1 s.2.1 s.2.2 i) (iv mode) (tn (a+c) b (c * b))
  (fun n s=>by rw[aL.l1,if_neg (by omega)])
  (fun n s i h=>by
   rw[aL.l1,if_pos (by omega),ae (by omega),Int.toNat_natCast,List.getElem?_eq_getElem h]
   simp only[Option.bind_some,Option.bind_assoc]
   rw[wrS i (by omega)])
  (fun i s h hI=>by
   have q:=nQ k hk mode s.2.1 s.1 s.2.2 _ (b+i) (a+c) _ (by omega) (by omega) (by have:=Nat.mul_le_mul_right (a+c) (show i≤d by omega);omega) hI.2.1 hI.1 hI.2.2 (hr _ (List.getElem_mem h))
   refine⟨?_,hI.other (hr _ (List.getElem_mem h))⟩
   have q2:=congrArg (Option.map fun t:List GOcc×List GOcc×List GOcc=>(t.2.1,t.1,t.2.2)) q
   simp only[Option.map_bind,Option.map_some,Function.comp_def] at q2
   exact q2)
  k (left.foldl (eg mode) (p.Left,p.Right,[])) (by omega) ⟨a1.2.1.mono (by omega),a1.2.2.1,a1.2.2.2.mono (by have:=Nat.mul_le_mul_right b hc;omega)⟩
 unfold aL.f
 rw[a1.1]
 simp only[Option.bind_some]
 rw[a2.1]
 rfl
theorem yy (k:Nat) (hk:1000000000000≤k) (mode:Int) (hmo:0≤mode∧mode≤4) (p:aB) (left right:List GOcc) (a b c d:Nat) (h1:Ok a p.Left) (h2:Ok b p.Right) (hl:Ids left) (hr:Ids right) (hc:left.length≤c) (hd:right.length≤d) (hB:c * b+d * (a+c)+a+b+c+d≤40000000000) :
  ck.f k mode p left right=some (⟨(eN mode p.Left p.Right left right).1,(eN mode p.Left p.Right left right).2.1⟩,(eN mode p.Left p.Right left right).2.2):=by
 have a1:=dM (fun s:List GOcc×List GOcc×List GOcc=>s) left (fun s e=>((gu.f k mode s.2.1 s.1 e).bind fun x36=>((aU.f k s.2.2 x36.2.2).bind fun x39=>some (x36.2.1,x36.1,x39)))) (fun n s i=>ck.l0 k mode left n s.1 s.2.1 s.2.2 i) (eg mode) (vE a b)
  (fun n s=>by rw[ck.l0,if_neg (by omega)])
  (fun n s i h=>by
   rw[ck.l0,if_pos (by omega),ae (by omega),Int.toNat_natCast,List.getElem?_eq_getElem h]
   simp only[Option.bind_some,Option.bind_assoc]
   rw[wrS i (by omega)])
  (fun i s h hI=>⟨wH k hk mode hmo s.1 s.2.1 s.2.2 _ (a+i) b _ (by omega) (by omega) (by have:=Nat.mul_le_mul_right b (show i≤c by omega);omega) hI.1 hI.2.1 hI.2.2 (hl _ (List.getElem_mem h)),hI.half (hl _ (List.getElem_mem h))⟩)
  k (p.Left,p.Right,[]) (by omega) ⟨h1,h2,by simpa using Ok.nil 0⟩
 have a2:=dM (fun s:List GOcc×List GOcc×List GOcc=>s) right (fun s e=>((gu.f k mode s.1 s.2.1 e).bind fun x36=>((aU.f k s.2.2 x36.2.2).bind fun x39=>some (x36.1,x36.2.1,x39)))) (fun n s i=>ck.l1 k mode right n s.1 s.2.1 s.2.2 i) (iv mode) (tn (a+c) b (c * b))
  (fun n s=>by rw[ck.l1,if_neg (by omega)])
  (fun n s i h=>by
   rw[ck.l1,if_pos (by omega),ae (by omega),Int.toNat_natCast,List.getElem?_eq_getElem h]
   simp only[Option.bind_some,Option.bind_assoc]
   rw[wrS i (by omega)])
  (fun i s h hI=>by
   have q:=wH k hk mode hmo s.2.1 s.1 s.2.2 _ (b+i) (a+c) _ (by omega) (by omega) (by have:=Nat.mul_le_mul_right (a+c) (show i≤d by omega);omega) hI.2.1 hI.1 hI.2.2 (hr _ (List.getElem_mem h))
   refine⟨?_,hI.other (hr _ (List.getElem_mem h))⟩
   have q2:=congrArg (Option.map fun t:List GOcc×List GOcc×List GOcc=>(t.2.1,t.1,t.2.2)) q
   simp only[Option.map_bind,Option.map_some,Function.comp_def] at q2
   exact q2)
  k (left.foldl (eg mode) (p.Left,p.Right,[])) (by omega) ⟨a1.2.1.mono (by omega),a1.2.2.1,a1.2.2.2.mono (by have:=Nat.mul_le_mul_right b hc;omega)⟩
 unfold ck.f
 rw[a1.1]
 simp only[Option.bind_some]
 rw[a2.1]
 rfl
def iO (m n:GNode):Bool:=m.Kind==n.Kind&&(m.Sym==n.Sym&&(m.N==n.N&&m.Kids==n.Kids))
def fy (k s n:Int) (ks:List Int):GNode:=⟨k,s,n,ks,⟨[],[]⟩,⟨[],[]⟩,[],0⟩
def lR (ns:List GNode) (x:GNode):Int×List GNode:=match ns.findIdx? (fun m=>iO m x) with
 |some i=>((i:Int),ns)
 |none=>((ns.length:Int),ns++[x])
mutual
/-- the parts with those of an expression, and the number of its own -/
def cW:GEx→List GNode→Int×List GNode
 |⟨k,s,n,ks⟩,ns=>lR (cc ks ns).2 (fy k s n (cc ks ns).1)
def cc:List GEx→List GNode→List Int×List GNode
 |[],ns=>([],ns)
 |x::xs,ns=>((cW x ns).1::(cc xs (cW x ns).2).1,(cc xs (cW x ns).2).2)
end
theorem mU (x:GEx) (ns:List GNode):cW x ns=lR (cc x.Kids ns).2 (fy x.Kind x.Sym x.N (cc x.Kids ns).1):=by cases x;simp only[cW]
theorem mh (ns:List GNode):cc [] ns=([],ns):=by simp only[cc]
theorem kP (x:GEx) (xs:List GEx) (ns:List GNode):cc (x::xs) ns=((cW x ns).1::(cc xs (cW x ns).2).1,(cc xs (cW x ns).2).2):=by simp only[cc]
def ap (found:List (List GOcc)) (n:GNode) (j:Nat):List GOcc:=found.getD (n.Kids.getD j 0).toNat []
def qT (time n:Int) (due kid:List GOcc):List GOcc:=kid.foldl (fun s o=>cq s (dz n o)) (due.filter fun o=> !(o.To==time))
/-- what a part finds at a time, and what becomes of it -/
def au (mode seen time:Int) (ev:Option Int) (found:List (List GOcc)) (n:GNode):GNode×List GOcc:=
 if n.Kind=1 then(n,if ev=some n.Sym then[⟨time,time,[seen]⟩] else[])
 else if n.Kind=2 then(n,bd (ap found n 0) (ap found n 1))
 else if n.Kind=3 then(⟨n.Kind,n.Sym,n.N,n.Kids,⟨(eN mode n.Pair.Left n.Pair.Right (ap found n 0) (ap found n 1)).1,(eN mode n.Pair.Left n.Pair.Right (ap found n 0) (ap found n 1)).2.1⟩,n.Span,n.Due,n.Many⟩,(eN mode n.Pair.Left n.Pair.Right (ap found n 0) (ap found n 1)).2.2)
 else if n.Kind=4 then(⟨n.Kind,n.Sym,n.N,n.Kids,⟨(gT mode n.Pair.Left (ap found n 0) (ap found n 1)).1,n.Pair.Right⟩,n.Span,n.Due,n.Many⟩,(gT mode n.Pair.Left (ap found n 0) (ap found n 1)).2)
 else if n.Kind=5 then(⟨n.Kind,n.Sym,n.N,n.Kids,n.Pair,⟨(ew mode n.Span.Left n.Span.Mid (ap found n 0) (ap found n 1) (ap found n 2)).1,(ew mode n.Span.Left n.Span.Mid (ap found n 0) (ap found n 1) (ap found n 2)).2.1⟩,n.Due,n.Many⟩,(ew mode n.Span.Left n.Span.Mid (ap found n 0) (ap found n 1) (ap found n 2)).2.2)
 else if n.Kind=6 then(⟨n.Kind,n.Sym,n.N,n.Kids,n.Pair,⟨(bJ mode n.Span.Left n.Span.Mid (ap found n 0) (ap found n 1) (ap found n 2)).1,(bJ mode n.Span.Left n.Span.Mid (ap found n 0) (ap found n 1) (ap found n 2)).2.1⟩,n.Due,n.Many⟩,(bJ mode n.Span.Left n.Span.Mid (ap found n 0) (ap found n 1) (ap found n 2)).2.2)
 else(⟨n.Kind,n.Sym,n.N,n.Kids,n.Pair,n.Span,qT time n.N n.Due (ap found n 0),n.Many⟩,atM n.Due time)
def dX (r:GNode×List GOcc):GNode:=⟨r.1.Kind,r.1.Sym,r.1.N,r.1.Kids,r.1.Pair,r.1.Span,r.1.Due,r.1.Many+(r.2.length:Int)⟩
def mT (mode seen time:Int) (ev:Option Int) (s:List GNode×List (List GOcc)) (n:GNode):List GNode×List (List GOcc):=
 (s.1++[dX (au mode seen time ev s.2 n)],s.2++[(au mode seen time ev s.2 n).2])
/-- a point in time: all parts in order -/
def aA (mode seen time:Int) (ev:Option Int) (ns:List GNode):List GNode×List (List GOcc):=ns.foldl (mT mode seen time ev) ([],[])
def cI (ns:List GNode):Bool:=ns.any fun n=>decide (40<n.Many)
/-- a part stands for an expression -/
def jZ (es:List GEx) (i:Nat) (n:GNode) (e:GEx):Prop:=
 n.Kind=e.Kind∧n.Sym=e.Sym∧n.N=e.N∧n.Kids.length=e.Kids.length∧∀j,j<e.Kids.length→∃q:Nat,q<i∧n.Kids[j]? =some (q:Int)∧es[q]? =e.Kids[j]?
def eP (e:GEx):Prop:=bx e=true∧exN e≤12
def Rep (es:List GEx) (ns:List GNode):Prop:=es.length=ns.length∧∀(i:Nat) (n:GNode),ns[i]? =some n→∃e,es[i]? =some e∧eP e∧jZ es i n e
/-- what was found at a time, of an expression so large -/
def FO (t:Int) (s:Nat) (l:List GOcc):Prop:=Asc l∧Ids l∧(l.length+40) * (l.length+40)≤41 ^ (s+1)∧∀o∈l,o.To=t
def kg (t:Int) (n:GNode):Prop:=Ok 40 n.Pair.Left∧Ok 40 n.Pair.Right∧Ok 40 n.Span.Left∧Ok 40 n.Span.Mid∧Ok 40 n.Due∧0≤n.Many∧n.Many≤40∧
 All (fun o=>o.To≤t) n.Pair.Left∧All (fun o=>o.To≤t) n.Pair.Right∧All (fun o=>o.To≤t) n.Span.Left∧All (fun o=>o.To≤t) n.Span.Mid
theorem sq_le {x m n:Nat} (h:x * x≤m) (hn:m<(n+1) * (n+1)):x≤n:=by
 rcases Nat.lt_or_ge n x with h1|h1
 ·have:=Nat.mul_le_mul (show n+1≤x by omega) (show n+1≤x by omega);omega
 ·exact h1
theorem rj {a b:Nat} (h:a≤b):41 ^ a≤41 ^ b:=Nat.pow_le_pow_right (by omega) h
theorem FX (x y:Nat):x * y * (x * y)=x * x * (y * y):=by rw[Nat.mul_assoc,Nat.mul_left_comm y x y,←Nat.mul_assoc]
theorem oO {x y a b c:Nat} (hx:x * x≤41 ^ a) (hy:y * y≤41 ^ b) (h:a+b≤c):x * y * (x * y)≤41 ^ c:=by
 rw[FX]
 exact Nat.le_trans (Nat.mul_le_mul hx hy) (by rw[←Nat.pow_add];exact rj h)
theorem mY {x y m:Nat} (h:x≤y) (hy:y * y≤m):x * x≤m:=Nat.le_trans (Nat.mul_le_mul h h) hy
theorem Eh {x:Nat} (h:x * x≤41 ^ 13):x≤30420000000:=sq_le h (by decide)
theorem FO.small {t:Int} {s:Nat} {l:List GOcc} (h:FO t s l) (hs:s≤12):l.length≤30420000000:=by
 have:=Eh (Nat.le_trans h.2.2.1 (rj (show s+1≤13 by omega)));omega
theorem FO.ok {t:Int} {s:Nat} {l:List GOcc} (h:FO t s l):Ok l.length l:=⟨h.1,h.2.1,Nat.le_refl _⟩
/-- two together -/
theorem FO.two {t:Int} {s s':Nat} {a b:List GOcc} (ha:FO t s a) (hb:FO t s' b) (h:s+s'≤11):(a.length+40) * (b.length+40)≤30420000000:=
 Eh (oO ha.2.2.1 hb.2.2.1 (by omega))
theorem FO.nil {t:Int} {s:Nat} (h:1≤s):FO t s []:=⟨by simp[Asc],fun x hx=>by simp at hx,Nat.le_trans (by decide) (rj (show 2≤s+1 by omega)),fun o ho=>by simp at ho⟩
theorem bO {es:List GEx} {i:Nat} {n:GNode} {e:GEx} {found:List (List GOcc)} (h:jZ es i n e) (hf:found.length=i) {j:Nat} (hj:j<e.Kids.length) :
  ∃q:Nat,q<i∧n.Kids[j]? =some (q:Int)∧found[q]? =some (ap found n j)∧es[q]? =e.Kids[j]? :=by
 obtain⟨q,h1,h2,h3⟩:=h.2.2.2.2 j hj
 refine⟨q,h1,h2,?_,h3⟩
 unfold ap
 rw[List.getD_eq_getElem?_getD,List.getD_eq_getElem?_getD,h2]
 simp only[Option.getD_some,Int.toNat_natCast]
 rw[List.getElem?_eq_getElem (by omega)];rfl
/-- what was found so far -/
def iE (t:Int) (es:List GEx) (found:List (List GOcc)):Prop:=∀(j:Nat) (l:List GOcc),found[j]? =some l→∃e,es[j]? =some e∧FO t (exN e) l
theorem bc {t:Int} {es:List GEx} {i:Nat} {n:GNode} {e:GEx} {found:List (List GOcc)} (h:jZ es i n e) (hf:found.length=i) (hF:iE t es found) {j:Nat} {x:GEx} (hj:e.Kids[j]? =some x) :
  FO t (exN x) (ap found n j):=by
 have hj':j<e.Kids.length:=(List.getElem?_eq_some_iff.1 hj).1
 obtain⟨q,h1,h2,h3,h4⟩:=bO h hf hj'
 obtain⟨e',h5,h6⟩:=hF q _ h3
 rw[h4,hj] at h5
 cases h5
 exact h6
theorem eI (e:GEx):1≤exN e:=by rw[cK];omega
theorem rS {α:Type} {l:List α} (h:l.length=1):∃a,l=[a]:=by
 match l,h with
 |[a],_=>exact⟨a,rfl⟩
theorem fT {α:Type} {l:List α} (h:l.length=2):∃a b,l=[a,b]:=by
 match l,h with
 |[a,b],_=>exact⟨a,b,rfl⟩
theorem hO {α:Type} {l:List α} (h:l.length=3):∃a b c,l=[a,b,c]:=by
 match l,h with
 |[a,b,c],_=>exact⟨a,b,c,rfl⟩
theorem rZ {e x:GEx} (h:e.Kids=[x]):exN e=exN x+1:=by rw[cK,h,cS,eS];omega
theorem fU {e x y:GEx} (h:e.Kids=[x,y]):exN e=exN x+exN y+1:=by rw[cK,h,cS,cS,eS];omega
theorem ia {e x y z:GEx} (h:e.Kids=[x,y,z]):exN e=exN x+exN y+exN z+1:=by rw[cK,h,cS,cS,cS,eS];omega
theorem rM {t:Int} {a b:GOcc} (ha:a.To=t) (hb:b.To≤t):(cz a b).To=t:=by show max a.To b.To=t;omega
theorem BT {t:Int}:∀{l:List GOcc} {o:GOcc},(∀x∈l,x.To≤t)→o.To=t→(nv o l).To=t
 |[],_,_,h=>h
 |x::l,o,hl,h=>BT (l:=l) (o:=cz o x) (fun y hy=>hl y (by simp[hy])) (rM h (hl x (by simp)))
theorem Al {t:Int} {o:GOcc} (ho:o.To=t):∀(l acc:List GOcc),(∀x∈l,x.To≤t)→(∀x∈acc,x.To=t)→∀x∈l.foldl (fun s e=>cq s (cz o e)) acc,x.To=t
 |[],_,_,h=>h
 |y::l,acc,hl,h=>Al ho l (cq acc (cz o y)) (fun z hz=>hl z (by simp[hz])) (fun z hz=>by
   rcases fZ.1 hz with h1|rfl
   ·exact h z h1
   ·exact rM ho (hl y (by simp)))
theorem te {t:Int} {mode:Int} {o:GOcc} {l:List GOcc} (hl:∀x∈l,x.To≤t) (ho:o.To=t):∀x∈d9 mode o l,x.To=t:=by
 unfold d9
 by_cases h0:l.length=0
 ·rw[if_pos h0];simp
 rw[if_neg h0]
 split
 ·intro x hx;rw[List.mem_singleton.1 hx,List.getElem?_eq_getElem (show l.length-1<l.length by omega)];exact rM ho (hl _ (List.getElem_mem _))
 split
 ·intro x hx;rw[List.mem_singleton.1 hx,List.getElem?_eq_getElem (show 0<l.length by omega)];exact rM ho (hl _ (List.getElem_mem _))
 split
 ·intro x hx;rw[List.mem_singleton.1 hx];exact BT hl ho
 ·exact Al ho l [] hl (by simp)
theorem pt {t:Int} {a b:List GOcc} (ha:∀x∈a,x.To=t) (hb:∀x∈b,x.To=t):∀x∈bd a b,x.To=t:=fun x hx=>by
 rcases di.1 hx with h|h
 ·exact ha x h
 ·exact hb x h
theorem nB {t:Int} {a b:List GOcc} (ha:∀x∈a,x.To≤t) (hb:∀x∈b,x.To≤t):∀x∈bd a b,x.To≤t:=fun x hx=>by
 rcases di.1 hx with h|h
 ·exact ha x h
 ·exact hb x h
theorem BZ {t:Int} {a g:List GOcc} (ha:∀x∈a,x.To≤t):∀x∈nq a g,x.To≤t:=fun x hx=>ha x (List.mem_filter.1 hx).1
/-- those on the right of a sequence or an absence -/
theorem o4 {t:Int} {mode:Int} {p:GOcc→GOcc→Bool}:∀(r:List GOcc) (s:List GOcc×List GOcc),(∀x∈r,x.To=t)→(∀x∈s.1,x.To≤t)→(∀x∈s.2,x.To=t)→
  (∀x∈(r.foldl (em mode p) s).1,x.To≤t)∧(∀x∈(r.foldl (em mode p) s).2,x.To=t)
 |[],s,_,h1,h2=>⟨h1,h2⟩
 |o::r,s,hr,h1,h2=>by
  rw[List.foldl_cons]
  exact o4 r _ (fun x hx=>hr x (by simp[hx])) (BZ h1) (pt h2 (te (fun x hx=>h1 x (List.mem_filter.1 hx).1) (hr o (by simp))))
theorem C5 {t:Int} {mode:Int} {own:List GOcc} {o:GOcc} {b:Bool} (h:∀x∈own,x.To≤t) (ho:o.To≤t):∀x∈jF mode own o b,x.To≤t:=by
 have hp:∀x∈cq own o,x.To≤t:=fun x hx=>by
  rcases fZ.1 hx with h1|rfl
  ·exact h x h1
  ·exact ho
 unfold jF
 split
 ·intro x hx;rw[List.mem_singleton.1 hx];exact ho
 split
 ·exact hp
 split
 ·exact hp
 ·exact h
def ToS (t:Int) (s:List GOcc×List GOcc×List GOcc):Prop:=(∀x∈s.1,x.To≤t)∧(∀x∈s.2.1,x.To≤t)∧∀x∈s.2.2,x.To=t
theorem ToS.half {t:Int} {mode:Int} {s:List GOcc×List GOcc×List GOcc} {o:GOcc} (h:ToS t s) (ho:o.To=t):ToS t (eg mode s o):=
 ⟨C5 h.1 (by omega),BZ h.2.1,pt h.2.2 (te h.2.1 ho)⟩
theorem ToS.other {t:Int} {mode:Int} {s:List GOcc×List GOcc×List GOcc} {o:GOcc} (h:ToS t s) (ho:o.To=t):ToS t (iv mode s o):=by
 obtain⟨a,b,c⟩:=ToS.half (mode:=mode) (s:=(s.2.1,s.1,s.2.2)) ⟨h.2.1,h.1,h.2.2⟩ ho
 exact⟨b,a,c⟩
theorem C2 {t:Int} {mode:Int} {l r left right:List GOcc} (h1:∀x∈l,x.To≤t) (h2:∀x∈r,x.To≤t) (hl:∀x∈left,x.To=t) (hr:∀x∈right,x.To=t):ToS t (eN mode l r left right):=by
 unfold eN
 exact fX (ToS t) _ right _ (fun s x hx hs=>hs.other (hr x hx)) (fX (ToS t) _ left _ (fun s x hx hs=>hs.half (hl x hx)) ⟨h1,h2,by simp⟩)
theorem CG {t:Int} {mode:Int} {l mid:List GOcc} (h1:∀x∈l,x.To≤t):∀(b acc:List GOcc),(∀x∈b,x.To=t)→(∀x∈acc,x.To=t)→∀x∈b.foldl (fun s o=>bd s (d9 mode o (l.filter (dF mid o)))) acc,x.To=t
 |[],_,_,h=>h
 |o::b,acc,hb,h=>CG h1 b _ (fun x hx=>hb x (by simp[hx])) (pt h (te (fun x hx=>h1 x (List.mem_filter.1 hx).1) (hb o (by simp))))
theorem pL {n:Int} {o:GOcc} (h:cy o.Ids):cy (dz n o).Ids:=h
/-- what waits, with what comes later -/
theorem Cr {n:Int}:∀(kid:List GOcc) (acc:List GOcc) (m:Nat),Ok m acc→Ids kid→Ok (m+kid.length) (kid.foldl (fun s o=>cq s (dz n o)) acc)
 |[],acc,m,h,_=>h
 |o::kid,acc,m,h,hk=>by
  rw[List.foldl_cons]
  have:=Cr (n:=n) kid (cq acc (dz n o)) (m+1) (h.put (pL (hk o (by simp)))) (fun x hx=>hk x (by simp[hx]))
  exact this.mono (by simp;omega)
theorem co (a b:Nat):(a+40) * (b+40)=a * b+40 * a+40 * b+1600:=by
 rw[Nat.add_mul,Nat.mul_add,Nat.mul_add];omega
theorem FO.of {t:Int} {s:Nat} {l:List GOcc} {m:Nat} (h:Ok m l) (hm:(m+40) * (m+40)≤41 ^ (s+1)) (ht:∀o∈l,o.To=t):FO t s l:=
 ⟨h.1,h.2.1,mY (show l.length+40≤m+40 by have:=h.2.2;omega) hm,ht⟩
theorem rV {t seen mode:Int} {ev:Option Int} {es:List GEx} {i:Nat} {n:GNode} {e:GEx} {found:List (List GOcc)} (hx:eP e) (hR:jZ es i n e) (hS:kg t n) (hf:found.length=i) (hF:iE t es found) (hs:0≤seen∧seen≤23) :
  FO t (exN e) (au mode seen t ev found n).2:=by
 obtain⟨S1,S2,S3,S4,S5,_,_,T1,T2,T3,T4⟩:=hS
 have hp:=eI e
 have h12:=hx.2
 unfold au
 rcases dY (bP hx.1).1 with⟨hk,hl⟩|⟨hk,hl⟩|⟨hk,hl⟩|⟨hk,hl⟩|⟨hk,hl⟩|⟨hk,hl⟩|⟨hk,hl⟩ <;> rw[←hR.1] at hk
 ·rw[if_pos hk]
  simp only
  split
  ·refine⟨by simp[Asc],fun o ho=>?_,Nat.le_trans (by decide:(1+40) * (1+40)≤41 ^ 2) (rj (by omega)),fun o ho=>by rw[List.mem_singleton.1 ho]⟩
   rw[List.mem_singleton.1 ho]
   exact⟨by simp[Up],fun x hx=>by rw[List.mem_singleton.1 hx];exact hs⟩
  ·exact FO.nil hp
 ·obtain⟨x,y,hK⟩:=fT hl
  have a:=bc hR hf hF (j:=0) (x:=x) (by rw[hK];rfl)
  have b:=bc hR hf hF (j:=1) (x:=y) (by rw[hK];rfl)
  rw[if_neg (by omega),if_pos hk]
  refine FO.of (a.ok.merge b.ok) ?_ (pt a.2.2.2 b.2.2.2)
  rw[fU hK]
  exact mY (by rw[co];omega) (oO a.2.2.1 b.2.2.1 (by omega))
 ·obtain⟨x,y,hK⟩:=fT hl
  have a:=bc hR hf hF (j:=0) (x:=x) (by rw[hK];rfl)
  have b:=bc hR hf hF (j:=1) (x:=y) (by rw[hK];rfl)
  rw[if_neg (by omega),if_neg (by omega),if_pos hk]
  refine FO.of (AB (mode:=mode) S1 S2 a.2.1 b.2.1 (Nat.le_refl _) (Nat.le_refl _)).2.2 ?_ (C2 T1 T2 a.2.2.2 b.2.2.2).2.2
  rw[fU hK]
  refine mY ?_ (oO a.2.2.1 b.2.2.1 (show exN x+1+(exN y+1)≤exN x+exN y+1+1 by omega))
  rw[co,Nat.mul_add,Nat.mul_comm (ap found n 1).length (ap found n 0).length]
  omega
 ·obtain⟨x,y,hK⟩:=fT hl
  have a:=bc hR hf hF (j:=0) (x:=x) (by rw[hK];rfl)
  have b:=bc hR hf hF (j:=1) (x:=y) (by rw[hK];rfl)
  have hN:=fU hK
  have h2:=a.two b (by omega)
  rw[co] at h2
  rw[if_neg (by omega),if_neg (by omega),if_neg (by omega),if_pos hk]
  refine FO.of (rF 1000000000000 (Nat.le_refl _) mode n.Pair _ _ 40 (ap found n 1).length (by omega) (by omega) (by omega) S1 a.2.1 b.2.1 (by omega) (Nat.le_refl _)).2.2 ?_ (o4 _ (n.Pair.Left,[]) b.2.2.2 T1 (by simp)).2
  rw[hN]
  refine mY ?_ (oO a.2.2.1 b.2.2.1 (show exN x+1+(exN y+1)≤exN x+exN y+1+1 by omega))
  rw[co];omega
 ·obtain⟨x,y,z,hK⟩:=hO hl
  have a:=bc hR hf hF (j:=0) (x:=x) (by rw[hK];rfl)
  have b:=bc hR hf hF (j:=1) (x:=y) (by rw[hK];rfl)
  have c:=bc hR hf hF (j:=2) (x:=z) (by rw[hK];rfl)
  have hN:=ia hK
  have py:=eI y
  have h2:=a.two c (by omega)
  have h3:=b.small (by omega)
  rw[co] at h2
  rw[if_neg (by omega),if_neg (by omega),if_neg (by omega),if_neg (by omega),if_pos hk]
  refine FO.of (rT 1000000000000 (Nat.le_refl _) mode n.Span _ _ _ 40 (ap found n 2).length (by omega) (by omega) (by omega) S3 S4 a.2.1 b.2.1 c.2.1 (by omega) (by omega) (Nat.le_refl _)).2.2.2 ?_ (o4 _ (n.Span.Left,[]) c.2.2.2 T3 (by simp)).2
  rw[hN]
  refine mY ?_ (oO a.2.2.1 c.2.2.1 (show exN x+1+(exN z+1)≤exN x+exN y+exN z+1+1 by omega))
  rw[co];omega
 ·obtain⟨x,y,z,hK⟩:=hO hl
  have a:=bc hR hf hF (j:=0) (x:=x) (by rw[hK];rfl)
  have b:=bc hR hf hF (j:=1) (x:=y) (by rw[hK];rfl)
  have c:=bc hR hf hF (j:=2) (x:=z) (by rw[hK];rfl)
  have hN:=ia hK
  have pz:=eI z
  have h2:=a.two b (by omega)
  have h3:=c.small (by omega)
  rw[co] at h2
  rw[if_neg (by omega),if_neg (by omega),if_neg (by omega),if_neg (by omega),if_neg (by omega),if_pos hk]
  refine FO.of (pN 1000000000000 (Nat.le_refl _) mode n.Span _ _ _ 40 (ap found n 1).length (by omega) (by omega) (by omega) S3 S4 a.2.1 b.2.1 c.2.1 (by omega) (Nat.le_refl _) (by omega)).2.2.2 ?_ (CG T3 _ _ b.2.2.2 (by simp))
  rw[hN]
  refine mY ?_ (oO a.2.2.1 b.2.2.1 (show exN x+1+(exN y+1)≤exN x+exN y+exN z+1+1 by omega))
  rw[co];omega
 ·obtain⟨x,hK⟩:=rS hl.1
  rw[if_neg (by omega),if_neg (by omega),if_neg (by omega),if_neg (by omega),if_neg (by omega),if_neg (by omega)]
  have hN:=rZ hK
  have px:=eI x
  refine FO.of (S5.filter _) (Nat.le_trans (by decide:(40+40) * (40+40)≤41 ^ 3) (rj (by omega))) (fun o ho=>?_)
  have:=(List.mem_filter.1 ho).2
  simpa using this
theorem Ar (o:GOcc) (n:Int) (h:Few o) (h1: -100000≤o.To+n∧o.To+n≤200000):eh.f o n=some (dz n o):=by
 unfold eh.f
 rw[rY _ h]
 simp only[Option.bind_some]
 rw[wr _ (by omega)]
 rfl
def iI (n:GNode) (d:List GOcc):GNode:=⟨n.Kind,n.Sym,n.N,n.Kids,n.Pair,n.Span,d,n.Many⟩
theorem nE (k:Nat) (hk:1000000000000≤k) (kid:List GOcc) (ns:List GNode) (i m:Nat) (n:GNode) (hi:i<ns.length) (hm:m+kid.length≤80000000000) (hd:Ok m n.Due) (hid:Ids kid) (ht:∀o∈kid, -100000≤o.To+n.N∧o.To+n.N≤200000) :
  am.l2 k kid (i:Int) k (ns.set i n) 0=some (ns.set i (iI n (kid.foldl (fun s o=>cq s (dz n.N o)) n.Due))):=by
 have:=dM (fun s:List GOcc=>ns.set i (iI n s)) kid (fun s o=>(eh.f o n.N).bind fun x=>eB.f k s x) (fun N s j=>am.l2 k kid (i:Int) N (ns.set i (iI n s)) j) (fun s o=>cq s (dz n.N o)) (fun j s=>Ok (m+j) s)
  (fun N s=>by rw[am.l2,if_neg (by omega)])
  (fun N s j h=>by
   rw[am.l2,if_pos (by omega),ae (by omega),Int.toNat_natCast,List.getElem?_eq_getElem h]
   simp only[Option.bind_some,Option.bind_assoc,Int.toNat_natCast]
   rw[List.getElem?_set_self hi]
   simp only[Option.bind_some,List.set_set]
   rw[wrS j (by omega)]
   rfl)
  (fun j s h hI=>by
   have ho:=hid _ (List.getElem_mem h)
   have hf:Few kid[j]:=by have:=fg ho;omega
   have:=hI.2.2
   refine⟨?_,(hI.put (pL ho)).mono (by omega)⟩
   rw[Ar _ _ hf (ht _ (List.getElem_mem h))]
   simp only[Option.bind_some]
   rw[jJ k hk _ _ (by omega) hI.2.1.few hI.1])
  k n.Due (by omega) (by simpa using hd)
 exact this.1
theorem o5 (k:Nat) (hk:1000000000000≤k) (kid:List GOcc) (ns:List GNode) (i m:Nat) (n:GNode) (hi:i<ns.length) (hm:m+kid.length≤80000000000) (hd:Ok m n.Due) (hid:Ids kid) (ht:∀o∈kid, -100000≤o.To+n.N∧o.To+n.N≤200000) :
  av.l2 k kid (i:Int) k (ns.set i n) 0=some (ns.set i (iI n (kid.foldl (fun s o=>cq s (dz n.N o)) n.Due))):=by
 have:=dM (fun s:List GOcc=>ns.set i (iI n s)) kid (fun s o=>(eh.f o n.N).bind fun x=>eB.f k s x) (fun N s j=>av.l2 k kid (i:Int) N (ns.set i (iI n s)) j) (fun s o=>cq s (dz n.N o)) (fun j s=>Ok (m+j) s)
  (fun N s=>by rw[av.l2,if_neg (by omega)])
  (fun N s j h=>by
   rw[av.l2,if_pos (by omega),ae (by omega),Int.toNat_natCast,List.getElem?_eq_getElem h]
   simp only[Option.bind_some,Option.bind_assoc,Int.toNat_natCast]
   rw[List.getElem?_set_self hi]
   simp only[Option.bind_some,List.set_set]
   rw[wrS j (by omega)]
   rfl)
  (fun j s h hI=>by
   have ho:=hid _ (List.getElem_mem h)
   have hf:Few kid[j]:=by have:=fg ho;omega
   have:=hI.2.2
   refine⟨?_,(hI.put (pL ho)).mono (by omega)⟩
   rw[Ar _ _ hf (ht _ (List.getElem_mem h))]
   simp only[Option.bind_some]
   rw[jJ k hk _ _ (by omega) hI.2.1.few hI.1])
  k n.Due (by omega) (by simpa using hd)
 exact this.1
theorem EW (k:Nat) (hk:1000000000000≤k) (g:GGraph) (t:Int) (N i:Nat) (ns:List GNode) (full:Bool) (found:List (List GOcc)) (n:GNode) (e:GEx) (es:List GEx) (hi:i<g.Nodes.length) (hg:g.Nodes.length≤1000) (hl:ns.length=g.Nodes.length) (hn:ns[i]? =some n)
  (hx:eP e) (hR:jZ es i n e) (hS:kg t n) (hf:found.length=i) (hF:iE t es found) (hs:0≤g.Seen∧g.Seen≤23) (ht:0≤t∧t≤100000) :
  am.l1 k g t (N+1) ns full found (i:Int)=am.l1 k g t N (ns.set i (dX (au g.Mode g.Seen t none found n))) (full||decide (40<(dX (au g.Mode g.Seen t none found n)).Many)) (found++[(au g.Mode g.Seen t none found n).2]) ((i+1:Nat):Int):=by
 have hout:=rV (mode:=g.Mode) (seen:=g.Seen) (ev:=none) hx hR hS hf hF hs
 have h12:=hx.2
 have hsm:=hout.small h12
 obtain⟨S1,S2,S3,S4,S5,m0,m1,T1,T2,T3,T4⟩:=hS
 have W:∀(q:Nat),q≤30420000000→IntKind.wrap .i64 (n.Many+(q:Int))=n.Many+(q:Int):=fun q hq=>wr _ (by omega)
 have fin:∀(m:GNode) (out:List GOcc),au g.Mode g.Seen t none found n=(m,out)→m.Many=n.Many→∀m':GNode,m'=dX (m,out)→
   (if full=true then am.l1 k g t N (ns.set i m') true (found++[out]) ((i+1:Nat):Int) else am.l1 k g t N (ns.set i m') (decide (40<n.Many+(out.length:Int))) (found++[out]) ((i+1:Nat):Int)) =
   am.l1 k g t N (ns.set i (dX (au g.Mode g.Seen t none found n))) (full||decide (40<(dX (au g.Mode g.Seen t none found n)).Many)) (found++[(au g.Mode g.Seen t none found n).2]) ((i+1:Nat):Int):=by
  intro m out h hm m' hm'
  rw[h,hm']
  have:(dX (m,out)).Many=n.Many+(out.length:Int):=by show m.Many+_=_;rw[hm]
  rw[this]
  cases full
  ·rw[if_neg (by decide),Bool.false_or]
  ·rw[if_pos rfl,Bool.true_or]
 rw[am.l1,if_pos (by omega),ae (by omega),ae (by omega),Int.toNat_natCast,hn]
 simp only[Option.bind_some]
 rw[wrS i (by omega)]
 rcases dY (bP hx.1).1 with⟨hk',hK⟩|⟨hk',hK⟩|⟨hk',hK⟩|⟨hk',hK⟩|⟨hk',hK⟩|⟨hk',hK⟩|⟨hk',hK⟩ <;> rw[←hR.1] at hk'
 ·rw[if_pos hk',ae (by omega)]
  have hfd:au g.Mode g.Seen t none found n=(n,[]):=by unfold au;rw[if_pos hk',if_neg (by simp)]
  rw[show IntKind.wrap .i64 (n.Many+0)=n.Many+(([]:List GOcc).length:Int) from W 0 (by omega)]
  exact fin n _ hfd rfl _ rfl
 ·have a:=bc hR hf hF (j:=0) (x:=e.Kids[0]'(by omega)) (by simp)
  have b:=bc hR hf hF (j:=1) (x:=e.Kids[1]'(by omega)) (by simp)
  have hN:exN (e.Kids[0]'(by omega))+exN (e.Kids[1]'(by omega))+1=exN e:=by obtain⟨x,y,hK'⟩:=fT hK;rw[fU hK'];simp only[hK',List.getElem_cons_zero,List.getElem_cons_succ]
  have h2:=a.two b (by omega)
  rw[co] at h2
  obtain⟨q0,a1,a2,a3,_⟩:=bO hR hf (j:=0) (by rw[hK];decide)
  obtain⟨q1,b1,b2,b3,_⟩:=bO hR hf (j:=1) (by rw[hK];decide)
  rw[if_neg (by omega),if_pos hk']
  rw[ae (by omega),a2]
  simp only[Option.bind_some]
  rw[ae (by omega),ae (by omega),Int.toNat_natCast,a3]
  simp only[Option.bind_some]
  rw[ae (by omega),b2]
  simp only[Option.bind_some]
  rw[ae (by omega),ae (by omega),Int.toNat_natCast,b3]
  simp only[Option.bind_some]
  rw[bV k hk _ _ (by omega) a.2.1.few b.2.1.few a.1]
  simp only[Option.bind_some]
  rw[ae (by omega)]
  have hfd:au g.Mode g.Seen t none found n=(n,bd (ap found n 0) (ap found n 1)):=by unfold au;rw[if_neg (by omega),if_pos hk']
  rw[hfd] at hsm
  rw[W _ hsm]
  exact fin n _ hfd rfl _ rfl
 ·have a:=bc hR hf hF (j:=0) (x:=e.Kids[0]'(by omega)) (by simp)
  have b:=bc hR hf hF (j:=1) (x:=e.Kids[1]'(by omega)) (by simp)
  have hN:exN (e.Kids[0]'(by omega))+exN (e.Kids[1]'(by omega))+1=exN e:=by obtain⟨x,y,hK'⟩:=fT hK;rw[fU hK'];simp only[hK',List.getElem_cons_zero,List.getElem_cons_succ]
  have h2:=a.two b (by omega)
  rw[co] at h2
  obtain⟨q0,a1,a2,a3,_⟩:=bO hR hf (j:=0) (by rw[hK];decide)
  obtain⟨q1,b1,b2,b3,_⟩:=bO hR hf (j:=1) (by rw[hK];decide)
  rw[if_neg (by omega),if_neg (by omega),if_pos hk']
  rw[ae (by omega),a2]
  simp only[Option.bind_some]
  rw[ae (by omega),ae (by omega),Int.toNat_natCast,a3]
  simp only[Option.bind_some]
  rw[ae (by omega),b2]
  simp only[Option.bind_some]
  rw[ae (by omega),ae (by omega),Int.toNat_natCast,b3]
  simp only[Option.bind_some]
  rw[Ak k hk g.Mode n.Pair _ _ 40 40 (ap found n 0).length (ap found n 1).length S1 S2 a.2.1 b.2.1 (Nat.le_refl _) (Nat.le_refl _) (by rw[Nat.mul_add,Nat.mul_comm (ap found n 1).length (ap found n 0).length];omega)]
  simp only[Option.bind_some]
  rw[ae (by omega)]
  have hfd:au g.Mode g.Seen t none found n=(⟨n.Kind,n.Sym,n.N,n.Kids,⟨(eN g.Mode n.Pair.Left n.Pair.Right (ap found n 0) (ap found n 1)).1,(eN g.Mode n.Pair.Left n.Pair.Right (ap found n 0) (ap found n 1)).2.1⟩,n.Span,n.Due,n.Many⟩,(eN g.Mode n.Pair.Left n.Pair.Right (ap found n 0) (ap found n 1)).2.2):=by unfold au;rw[if_neg (by omega),if_neg (by omega),if_pos hk']
  rw[hfd] at hsm
  simp only[List.set_set]
  rw[W _ hsm]
  exact fin _ _ hfd rfl _ rfl
 ·have a:=bc hR hf hF (j:=0) (x:=e.Kids[0]'(by omega)) (by simp)
  have b:=bc hR hf hF (j:=1) (x:=e.Kids[1]'(by omega)) (by simp)
  have hN:exN (e.Kids[0]'(by omega))+exN (e.Kids[1]'(by omega))+1=exN e:=by obtain⟨x,y,hK'⟩:=fT hK;rw[fU hK'];simp only[hK',List.getElem_cons_zero,List.getElem_cons_succ]
  have h2:=a.two b (by omega)
  rw[co] at h2
  obtain⟨q0,a1,a2,a3,_⟩:=bO hR hf (j:=0) (by rw[hK];decide)
  obtain⟨q1,b1,b2,b3,_⟩:=bO hR hf (j:=1) (by rw[hK];decide)
  rw[if_neg (by omega),if_neg (by omega),if_neg (by omega),if_pos hk']
  rw[ae (by omega),a2]
  simp only[Option.bind_some]
  rw[ae (by omega),ae (by omega),Int.toNat_natCast,a3]
  simp only[Option.bind_some]
  rw[ae (by omega),b2]
  simp only[Option.bind_some]
  rw[ae (by omega),ae (by omega),Int.toNat_natCast,b3]
  simp only[Option.bind_some]
  rw[(rF k hk g.Mode n.Pair _ _ 40 (ap found n 1).length (by omega) (by omega) (by omega) S1 a.2.1 b.2.1 (by omega) (Nat.le_refl _)).1]
  simp only[Option.bind_some]
  rw[ae (by omega)]
  have hfd:au g.Mode g.Seen t none found n=(⟨n.Kind,n.Sym,n.N,n.Kids,⟨(gT g.Mode n.Pair.Left (ap found n 0) (ap found n 1)).1,n.Pair.Right⟩,n.Span,n.Due,n.Many⟩,(gT g.Mode n.Pair.Left (ap found n 0) (ap found n 1)).2):=by unfold au;rw[if_neg (by omega),if_neg (by omega),if_neg (by omega),if_pos hk']
  rw[hfd] at hsm
  simp only[List.set_set]
  rw[W _ hsm]
  exact fin _ _ hfd rfl _ rfl
 ·have a:=bc hR hf hF (j:=0) (x:=e.Kids[0]'(by omega)) (by simp)
  have b:=bc hR hf hF (j:=1) (x:=e.Kids[1]'(by omega)) (by simp)
  have c:=bc hR hf hF (j:=2) (x:=e.Kids[2]'(by omega)) (by simp)
  have hN:exN (e.Kids[0]'(by omega))+exN (e.Kids[1]'(by omega))+exN (e.Kids[2]'(by omega))+1=exN e:=by obtain⟨x,y,z,hK'⟩:=hO hK;rw[ia hK'];simp only[hK',List.getElem_cons_zero,List.getElem_cons_succ]
  have:=eI (e.Kids[1]'(by omega))
  have:=eI (e.Kids[2]'(by omega))
  have h2:=a.two c (by omega)
  have h3:=b.small (by omega)
  rw[co] at h2
  obtain⟨q0,a1,a2,a3,_⟩:=bO hR hf (j:=0) (by rw[hK];decide)
  obtain⟨q1,b1,b2,b3,_⟩:=bO hR hf (j:=1) (by rw[hK];decide)
  obtain⟨q2,c1,c2,c3,_⟩:=bO hR hf (j:=2) (by rw[hK];decide)
  rw[if_neg (by omega),if_neg (by omega),if_neg (by omega),if_neg (by omega),if_pos hk']
  rw[ae (by omega),a2]
  simp only[Option.bind_some]
  rw[ae (by omega),ae (by omega),Int.toNat_natCast,a3]
  simp only[Option.bind_some]
  rw[ae (by omega),b2]
  simp only[Option.bind_some]
  rw[ae (by omega),ae (by omega),Int.toNat_natCast,b3]
  simp only[Option.bind_some]
  rw[ae (by omega),c2]
  simp only[Option.bind_some]
  rw[ae (by omega),ae (by omega),Int.toNat_natCast,c3]
  simp only[Option.bind_some]
  rw[(rT k hk g.Mode n.Span _ _ _ 40 (ap found n 2).length (by omega) (by omega) (by omega) S3 S4 a.2.1 b.2.1 c.2.1 (by omega) (by omega) (Nat.le_refl _)).1]
  simp only[Option.bind_some]
  rw[ae (by omega)]
  have hfd:au g.Mode g.Seen t none found n=(⟨n.Kind,n.Sym,n.N,n.Kids,n.Pair,⟨(ew g.Mode n.Span.Left n.Span.Mid (ap found n 0) (ap found n 1) (ap found n 2)).1,(ew g.Mode n.Span.Left n.Span.Mid (ap found n 0) (ap found n 1) (ap found n 2)).2.1⟩,n.Due,n.Many⟩,(ew g.Mode n.Span.Left n.Span.Mid (ap found n 0) (ap found n 1) (ap found n 2)).2.2):=by unfold au;rw[if_neg (by omega),if_neg (by omega),if_neg (by omega),if_neg (by omega),if_pos hk']
  rw[hfd] at hsm
  simp only[List.set_set]
  rw[W _ hsm]
  exact fin _ _ hfd rfl _ rfl
 ·have a:=bc hR hf hF (j:=0) (x:=e.Kids[0]'(by omega)) (by simp)
  have b:=bc hR hf hF (j:=1) (x:=e.Kids[1]'(by omega)) (by simp)
  have c:=bc hR hf hF (j:=2) (x:=e.Kids[2]'(by omega)) (by simp)
  have hN:exN (e.Kids[0]'(by omega))+exN (e.Kids[1]'(by omega))+exN (e.Kids[2]'(by omega))+1=exN e:=by obtain⟨x,y,z,hK'⟩:=hO hK;rw[ia hK'];simp only[hK',List.getElem_cons_zero,List.getElem_cons_succ]
  have:=eI (e.Kids[1]'(by omega))
  have:=eI (e.Kids[2]'(by omega))
  have h2:=a.two b (by omega)
  have h3:=c.small (by omega)
  rw[co] at h2
  obtain⟨q0,a1,a2,a3,_⟩:=bO hR hf (j:=0) (by rw[hK];decide)
  obtain⟨q1,b1,b2,b3,_⟩:=bO hR hf (j:=1) (by rw[hK];decide)
  obtain⟨q2,c1,c2,c3,_⟩:=bO hR hf (j:=2) (by rw[hK];decide)
  rw[if_neg (by omega),if_neg (by omega),if_neg (by omega),if_neg (by omega),if_neg (by omega),if_pos hk']
  rw[ae (by omega),a2]
  simp only[Option.bind_some]
  rw[ae (by omega),ae (by omega),Int.toNat_natCast,a3]
  simp only[Option.bind_some]
  rw[ae (by omega),b2]
  simp only[Option.bind_some]
  rw[ae (by omega),ae (by omega),Int.toNat_natCast,b3]
  simp only[Option.bind_some]
  rw[ae (by omega),c2]
  simp only[Option.bind_some]
  rw[ae (by omega),ae (by omega),Int.toNat_natCast,c3]
  simp only[Option.bind_some]
  rw[(pN k hk g.Mode n.Span _ _ _ 40 (ap found n 1).length (by omega) (by omega) (by omega) S3 S4 a.2.1 b.2.1 c.2.1 (by omega) (Nat.le_refl _) (by omega)).1]
  simp only[Option.bind_some]
  rw[ae (by omega)]
  have hfd:au g.Mode g.Seen t none found n=(⟨n.Kind,n.Sym,n.N,n.Kids,n.Pair,⟨(bJ g.Mode n.Span.Left n.Span.Mid (ap found n 0) (ap found n 1) (ap found n 2)).1,(bJ g.Mode n.Span.Left n.Span.Mid (ap found n 0) (ap found n 1) (ap found n 2)).2.1⟩,n.Due,n.Many⟩,(bJ g.Mode n.Span.Left n.Span.Mid (ap found n 0) (ap found n 1) (ap found n 2)).2.2):=by unfold au;rw[if_neg (by omega),if_neg (by omega),if_neg (by omega),if_neg (by omega),if_neg (by omega),if_pos hk']
  rw[hfd] at hsm
  simp only[List.set_set]
  rw[W _ hsm]
  exact fin _ _ hfd rfl _ rfl
 ·have a:=bc hR hf hF (j:=0) (x:=e.Kids[0]'(by omega)) (by simp)
  have hN:exN (e.Kids[0]'(by omega))+1=exN e:=by obtain⟨x,hK'⟩:=rS hK.1;rw[rZ hK'];simp only[hK',List.getElem_cons_zero]
  have hsa:=a.small (by omega)
  obtain⟨q0,a1,a2,a3,_⟩:=bO hR hf (j:=0) (by rw[hK.1];decide)
  have hd:=S5.filter (fun o=> !(o.To==t))
  have:=S5.2.2
  rw[if_neg (by omega),if_neg (by omega),if_neg (by omega),if_neg (by omega),if_neg (by omega),if_neg (by omega),im k hk _ _ (by omega)]
  simp only[Option.bind_some]
  have hth:aW.f (fun y0=>dP.f y0 t) k n.Due=some (n.Due.filter fun o=> !(o.To==t)):=m7 k hk _ _ _ (by omega) (fun x hx=>rfl)
  rw[hth]
  simp only[Option.bind_some]
  rw[ae (by omega),a2]
  simp only[Option.bind_some]
  rw[ae (by omega),ae (by omega),Int.toNat_natCast,a3]
  simp only[Option.bind_some]
  have hl2:=nE k hk (ap found n 0) ns i 40 (iI n (n.Due.filter fun o=> !(o.To==t))) (by omega) (by omega) hd a.2.1 (fun o ho=>by have:=a.2.2.2 o ho;have h7:=hR.2.2.1;have hh:=hK.2;show -100000≤o.To+n.N∧o.To+n.N≤200000;omega)
  simp only[iI] at hl2
  rw[hl2]
  simp only[Option.bind_some]
  rw[ae (by omega),List.getElem?_set_self (by omega)]
  simp only[Option.bind_some,List.set_set]
  have hfd:au g.Mode g.Seen t none found n=(⟨n.Kind,n.Sym,n.N,n.Kids,n.Pair,n.Span,qT t n.N n.Due (ap found n 0),n.Many⟩,atM n.Due t):=by unfold au;rw[if_neg (by omega),if_neg (by omega),if_neg (by omega),if_neg (by omega),if_neg (by omega),if_neg (by omega)]
  rw[hfd] at hsm
  show(if full=true then am.l1 k g t N (ns.set i ⟨n.Kind,n.Sym,n.N,n.Kids,n.Pair,n.Span,_,IntKind.wrap .i64 (n.Many+((atM n.Due t).length:Int))⟩) true _ _ else am.l1 k g t N (ns.set i ⟨n.Kind,n.Sym,n.N,n.Kids,n.Pair,n.Span,_,IntKind.wrap .i64 (n.Many+((atM n.Due t).length:Int))⟩) (decide (40<IntKind.wrap .i64 (n.Many+((atM n.Due t).length:Int)))) _ _)=_
  rw[W _ hsm]
  exact fin _ _ hfd rfl _ rfl
theorem EI (k:Nat) (hk:1000000000000≤k) (g:GGraph) (t:Int) (x:GEv) (N i:Nat) (ns:List GNode) (full:Bool) (found:List (List GOcc)) (n:GNode) (e:GEx) (es:List GEx) (hi:i<g.Nodes.length) (hg:g.Nodes.length≤1000) (hl:ns.length=g.Nodes.length) (hn:ns[i]? =some n)
  (hx:eP e) (hR:jZ es i n e) (hS:kg t n) (hf:found.length=i) (hF:iE t es found) (hs:0≤g.Seen∧g.Seen≤23) (ht:0≤t∧t≤100000) :
  av.l1 k g t x (N+1) ns full found (i:Int)=av.l1 k g t x N (ns.set i (dX (au g.Mode g.Seen t (some x.Sym) found n))) (full||decide (40<(dX (au g.Mode g.Seen t (some x.Sym) found n)).Many)) (found++[(au g.Mode g.Seen t (some x.Sym) found n).2]) ((i+1:Nat):Int):=by
 have hout:=rV (mode:=g.Mode) (seen:=g.Seen) (ev:=(some x.Sym)) hx hR hS hf hF hs
 have h12:=hx.2
 have hsm:=hout.small h12
 obtain⟨S1,S2,S3,S4,S5,m0,m1,T1,T2,T3,T4⟩:=hS
 have W:∀(q:Nat),q≤30420000000→IntKind.wrap .i64 (n.Many+(q:Int))=n.Many+(q:Int):=fun q hq=>wr _ (by omega)
 have fin:∀(m:GNode) (out:List GOcc),au g.Mode g.Seen t (some x.Sym) found n=(m,out)→m.Many=n.Many→∀m':GNode,m'=dX (m,out)→
   (if full=true then av.l1 k g t x N (ns.set i m') true (found++[out]) ((i+1:Nat):Int) else av.l1 k g t x N (ns.set i m') (decide (40<n.Many+(out.length:Int))) (found++[out]) ((i+1:Nat):Int)) =
   av.l1 k g t x N (ns.set i (dX (au g.Mode g.Seen t (some x.Sym) found n))) (full||decide (40<(dX (au g.Mode g.Seen t (some x.Sym) found n)).Many)) (found++[(au g.Mode g.Seen t (some x.Sym) found n).2]) ((i+1:Nat):Int):=by
  intro m out h hm m' hm'
  rw[h,hm']
  have:(dX (m,out)).Many=n.Many+(out.length:Int):=by show m.Many+_=_;rw[hm]
  rw[this]
  cases full
  ·rw[if_neg (by decide),Bool.false_or]
  ·rw[if_pos rfl,Bool.true_or]
 rw[av.l1,if_pos (by omega),ae (by omega),ae (by omega),Int.toNat_natCast,hn]
 simp only[Option.bind_some]
 rw[wrS i (by omega)]
 rcases dY (bP hx.1).1 with⟨hk',hK⟩|⟨hk',hK⟩|⟨hk',hK⟩|⟨hk',hK⟩|⟨hk',hK⟩|⟨hk',hK⟩|⟨hk',hK⟩ <;> rw[←hR.1] at hk'
 ·rw[if_pos hk']
  by_cases hsym:x.Sym=n.Sym
  ·rw[if_pos hsym,ae (by omega)]
   have hfd:au g.Mode g.Seen t (some x.Sym) found n=(n,[⟨t,t,[g.Seen]⟩]):=by unfold au;rw[if_pos hk',if_pos (by rw[hsym])]
   rw[show IntKind.wrap .i64 (n.Many+((1:Nat):Int))=n.Many+(([⟨t,t,[g.Seen]⟩]:List GOcc).length:Int) from W 1 (by omega)]
   exact fin n _ hfd rfl _ rfl
  ·rw[if_neg hsym,ae (by omega)]
   have hfd:au g.Mode g.Seen t (some x.Sym) found n=(n,[]):=by unfold au;rw[if_pos hk',if_neg (by simpa using hsym)]
   rw[show IntKind.wrap .i64 (n.Many+0)=n.Many+(([]:List GOcc).length:Int) from W 0 (by omega)]
   exact fin n _ hfd rfl _ rfl
 ·have a:=bc hR hf hF (j:=0) (x:=e.Kids[0]'(by omega)) (by simp)
  have b:=bc hR hf hF (j:=1) (x:=e.Kids[1]'(by omega)) (by simp)
  have hN:exN (e.Kids[0]'(by omega))+exN (e.Kids[1]'(by omega))+1=exN e:=by obtain⟨x,y,hK'⟩:=fT hK;rw[fU hK'];simp only[hK',List.getElem_cons_zero,List.getElem_cons_succ]
  have h2:=a.two b (by omega)
  rw[co] at h2
  obtain⟨q0,a1,a2,a3,_⟩:=bO hR hf (j:=0) (by rw[hK];decide)
  obtain⟨q1,b1,b2,b3,_⟩:=bO hR hf (j:=1) (by rw[hK];decide)
  rw[if_neg (by omega),if_pos hk']
  rw[ae (by omega),a2]
  simp only[Option.bind_some]
  rw[ae (by omega),ae (by omega),Int.toNat_natCast,a3]
  simp only[Option.bind_some]
  rw[ae (by omega),b2]
  simp only[Option.bind_some]
  rw[ae (by omega),ae (by omega),Int.toNat_natCast,b3]
  simp only[Option.bind_some]
  rw[bV k hk _ _ (by omega) a.2.1.few b.2.1.few a.1]
  simp only[Option.bind_some]
  rw[ae (by omega)]
  have hfd:au g.Mode g.Seen t (some x.Sym) found n=(n,bd (ap found n 0) (ap found n 1)):=by unfold au;rw[if_neg (by omega),if_pos hk']
  rw[hfd] at hsm
  rw[W _ hsm]
  exact fin n _ hfd rfl _ rfl
 ·have a:=bc hR hf hF (j:=0) (x:=e.Kids[0]'(by omega)) (by simp)
  have b:=bc hR hf hF (j:=1) (x:=e.Kids[1]'(by omega)) (by simp)
  have hN:exN (e.Kids[0]'(by omega))+exN (e.Kids[1]'(by omega))+1=exN e:=by obtain⟨x,y,hK'⟩:=fT hK;rw[fU hK'];simp only[hK',List.getElem_cons_zero,List.getElem_cons_succ]
  have h2:=a.two b (by omega)
  rw[co] at h2
  obtain⟨q0,a1,a2,a3,_⟩:=bO hR hf (j:=0) (by rw[hK];decide)
  obtain⟨q1,b1,b2,b3,_⟩:=bO hR hf (j:=1) (by rw[hK];decide)
  rw[if_neg (by omega),if_neg (by omega),if_pos hk']
  rw[ae (by omega),a2]
  simp only[Option.bind_some]
  rw[ae (by omega),ae (by omega),Int.toNat_natCast,a3]
  simp only[Option.bind_some]
  rw[ae (by omega),b2]
  simp only[Option.bind_some]
  rw[ae (by omega),ae (by omega),Int.toNat_natCast,b3]
  simp only[Option.bind_some]
  rw[Ak k hk g.Mode n.Pair _ _ 40 40 (ap found n 0).length (ap found n 1).length S1 S2 a.2.1 b.2.1 (Nat.le_refl _) (Nat.le_refl _) (by rw[Nat.mul_add,Nat.mul_comm (ap found n 1).length (ap found n 0).length];omega)]
  simp only[Option.bind_some]
  rw[ae (by omega)]
  have hfd:au g.Mode g.Seen t (some x.Sym) found n=(⟨n.Kind,n.Sym,n.N,n.Kids,⟨(eN g.Mode n.Pair.Left n.Pair.Right (ap found n 0) (ap found n 1)).1,(eN g.Mode n.Pair.Left n.Pair.Right (ap found n 0) (ap found n 1)).2.1⟩,n.Span,n.Due,n.Many⟩,(eN g.Mode n.Pair.Left n.Pair.Right (ap found n 0) (ap found n 1)).2.2):=by unfold au;rw[if_neg (by omega),if_neg (by omega),if_pos hk']
  rw[hfd] at hsm
  simp only[List.set_set]
  rw[W _ hsm]
  exact fin _ _ hfd rfl _ rfl
 ·have a:=bc hR hf hF (j:=0) (x:=e.Kids[0]'(by omega)) (by simp)
  have b:=bc hR hf hF (j:=1) (x:=e.Kids[1]'(by omega)) (by simp)
  have hN:exN (e.Kids[0]'(by omega))+exN (e.Kids[1]'(by omega))+1=exN e:=by obtain⟨x,y,hK'⟩:=fT hK;rw[fU hK'];simp only[hK',List.getElem_cons_zero,List.getElem_cons_succ]
  have h2:=a.two b (by omega)
  rw[co] at h2
  obtain⟨q0,a1,a2,a3,_⟩:=bO hR hf (j:=0) (by rw[hK];decide)
  obtain⟨q1,b1,b2,b3,_⟩:=bO hR hf (j:=1) (by rw[hK];decide)
  rw[if_neg (by omega),if_neg (by omega),if_neg (by omega),if_pos hk']
  rw[ae (by omega),a2]
  simp only[Option.bind_some]
  rw[ae (by omega),ae (by omega),Int.toNat_natCast,a3]
  simp only[Option.bind_some]
  rw[ae (by omega),b2]
  simp only[Option.bind_some]
  rw[ae (by omega),ae (by omega),Int.toNat_natCast,b3]
  simp only[Option.bind_some]
  rw[(rF k hk g.Mode n.Pair _ _ 40 (ap found n 1).length (by omega) (by omega) (by omega) S1 a.2.1 b.2.1 (by omega) (Nat.le_refl _)).1]
  simp only[Option.bind_some]
  rw[ae (by omega)]
  have hfd:au g.Mode g.Seen t (some x.Sym) found n=(⟨n.Kind,n.Sym,n.N,n.Kids,⟨(gT g.Mode n.Pair.Left (ap found n 0) (ap found n 1)).1,n.Pair.Right⟩,n.Span,n.Due,n.Many⟩,(gT g.Mode n.Pair.Left (ap found n 0) (ap found n 1)).2):=by unfold au;rw[if_neg (by omega),if_neg (by omega),if_neg (by omega),if_pos hk']
  rw[hfd] at hsm
  simp only[List.set_set]
  rw[W _ hsm]
  exact fin _ _ hfd rfl _ rfl
 ·have a:=bc hR hf hF (j:=0) (x:=e.Kids[0]'(by omega)) (by simp)
  have b:=bc hR hf hF (j:=1) (x:=e.Kids[1]'(by omega)) (by simp)
  have c:=bc hR hf hF (j:=2) (x:=e.Kids[2]'(by omega)) (by simp)
  have hN:exN (e.Kids[0]'(by omega))+exN (e.Kids[1]'(by omega))+exN (e.Kids[2]'(by omega))+1=exN e:=by obtain⟨x,y,z,hK'⟩:=hO hK;rw[ia hK'];simp only[hK',List.getElem_cons_zero,List.getElem_cons_succ]
  have:=eI (e.Kids[1]'(by omega))
  have:=eI (e.Kids[2]'(by omega))
  have h2:=a.two c (by omega)
  have h3:=b.small (by omega)
  rw[co] at h2
  obtain⟨q0,a1,a2,a3,_⟩:=bO hR hf (j:=0) (by rw[hK];decide)
  obtain⟨q1,b1,b2,b3,_⟩:=bO hR hf (j:=1) (by rw[hK];decide)
  obtain⟨q2,c1,c2,c3,_⟩:=bO hR hf (j:=2) (by rw[hK];decide)
  rw[if_neg (by omega),if_neg (by omega),if_neg (by omega),if_neg (by omega),if_pos hk']
  rw[ae (by omega),a2]
  simp only[Option.bind_some]
  rw[ae (by omega),ae (by omega),Int.toNat_natCast,a3]
  simp only[Option.bind_some]
  rw[ae (by omega),b2]
  simp only[Option.bind_some]
  rw[ae (by omega),ae (by omega),Int.toNat_natCast,b3]
  simp only[Option.bind_some]
  rw[ae (by omega),c2]
  simp only[Option.bind_some]
  rw[ae (by omega),ae (by omega),Int.toNat_natCast,c3]
  simp only[Option.bind_some]
  rw[(rT k hk g.Mode n.Span _ _ _ 40 (ap found n 2).length (by omega) (by omega) (by omega) S3 S4 a.2.1 b.2.1 c.2.1 (by omega) (by omega) (Nat.le_refl _)).1]
  simp only[Option.bind_some]
  rw[ae (by omega)]
  have hfd:au g.Mode g.Seen t (some x.Sym) found n=(⟨n.Kind,n.Sym,n.N,n.Kids,n.Pair,⟨(ew g.Mode n.Span.Left n.Span.Mid (ap found n 0) (ap found n 1) (ap found n 2)).1,(ew g.Mode n.Span.Left n.Span.Mid (ap found n 0) (ap found n 1) (ap found n 2)).2.1⟩,n.Due,n.Many⟩,(ew g.Mode n.Span.Left n.Span.Mid (ap found n 0) (ap found n 1) (ap found n 2)).2.2):=by unfold au;rw[if_neg (by omega),if_neg (by omega),if_neg (by omega),if_neg (by omega),if_pos hk']
  rw[hfd] at hsm
  simp only[List.set_set]
  rw[W _ hsm]
  exact fin _ _ hfd rfl _ rfl
 ·have a:=bc hR hf hF (j:=0) (x:=e.Kids[0]'(by omega)) (by simp)
  have b:=bc hR hf hF (j:=1) (x:=e.Kids[1]'(by omega)) (by simp)
  have c:=bc hR hf hF (j:=2) (x:=e.Kids[2]'(by omega)) (by simp)
  have hN:exN (e.Kids[0]'(by omega))+exN (e.Kids[1]'(by omega))+exN (e.Kids[2]'(by omega))+1=exN e:=by obtain⟨x,y,z,hK'⟩:=hO hK;rw[ia hK'];simp only[hK',List.getElem_cons_zero,List.getElem_cons_succ]
  have:=eI (e.Kids[1]'(by omega))
  have:=eI (e.Kids[2]'(by omega))
  have h2:=a.two b (by omega)
  have h3:=c.small (by omega)
  rw[co] at h2
  obtain⟨q0,a1,a2,a3,_⟩:=bO hR hf (j:=0) (by rw[hK];decide)
  obtain⟨q1,b1,b2,b3,_⟩:=bO hR hf (j:=1) (by rw[hK];decide)
  obtain⟨q2,c1,c2,c3,_⟩:=bO hR hf (j:=2) (by rw[hK];decide)
  rw[if_neg (by omega),if_neg (by omega),if_neg (by omega),if_neg (by omega),if_neg (by omega),if_pos hk']
  rw[ae (by omega),a2]
  simp only[Option.bind_some]
  rw[ae (by omega),ae (by omega),Int.toNat_natCast,a3]
  simp only[Option.bind_some]
  rw[ae (by omega),b2]
  simp only[Option.bind_some]
  rw[ae (by omega),ae (by omega),Int.toNat_natCast,b3]
  simp only[Option.bind_some]
  rw[ae (by omega),c2]
  simp only[Option.bind_some]
  rw[ae (by omega),ae (by omega),Int.toNat_natCast,c3]
  simp only[Option.bind_some]
  rw[(pN k hk g.Mode n.Span _ _ _ 40 (ap found n 1).length (by omega) (by omega) (by omega) S3 S4 a.2.1 b.2.1 c.2.1 (by omega) (Nat.le_refl _) (by omega)).1]
  simp only[Option.bind_some]
  rw[ae (by omega)]
  have hfd:au g.Mode g.Seen t (some x.Sym) found n=(⟨n.Kind,n.Sym,n.N,n.Kids,n.Pair,⟨(bJ g.Mode n.Span.Left n.Span.Mid (ap found n 0) (ap found n 1) (ap found n 2)).1,(bJ g.Mode n.Span.Left n.Span.Mid (ap found n 0) (ap found n 1) (ap found n 2)).2.1⟩,n.Due,n.Many⟩,(bJ g.Mode n.Span.Left n.Span.Mid (ap found n 0) (ap found n 1) (ap found n 2)).2.2):=by unfold au;rw[if_neg (by omega),if_neg (by omega),if_neg (by omega),if_neg (by omega),if_neg (by omega),if_pos hk']
  rw[hfd] at hsm
  simp only[List.set_set]
  rw[W _ hsm]
  exact fin _ _ hfd rfl _ rfl
 ·have a:=bc hR hf hF (j:=0) (x:=e.Kids[0]'(by omega)) (by simp)
  have hN:exN (e.Kids[0]'(by omega))+1=exN e:=by obtain⟨x,hK'⟩:=rS hK.1;rw[rZ hK'];simp only[hK',List.getElem_cons_zero]
  have hsa:=a.small (by omega)
  obtain⟨q0,a1,a2,a3,_⟩:=bO hR hf (j:=0) (by rw[hK.1];decide)
  have hd:=S5.filter (fun o=> !(o.To==t))
  have:=S5.2.2
  rw[if_neg (by omega),if_neg (by omega),if_neg (by omega),if_neg (by omega),if_neg (by omega),if_neg (by omega),im k hk _ _ (by omega)]
  simp only[Option.bind_some]
  have hth:aW.f (fun y0=>dP.f y0 t) k n.Due=some (n.Due.filter fun o=> !(o.To==t)):=m7 k hk _ _ _ (by omega) (fun x hx=>rfl)
  rw[hth]
  simp only[Option.bind_some]
  rw[ae (by omega),a2]
  simp only[Option.bind_some]
  rw[ae (by omega),ae (by omega),Int.toNat_natCast,a3]
  simp only[Option.bind_some]
  have hl2:=o5 k hk (ap found n 0) ns i 40 (iI n (n.Due.filter fun o=> !(o.To==t))) (by omega) (by omega) hd a.2.1 (fun o ho=>by have:=a.2.2.2 o ho;have h7:=hR.2.2.1;have hh:=hK.2;show -100000≤o.To+n.N∧o.To+n.N≤200000;omega)
  simp only[iI] at hl2
  rw[hl2]
  simp only[Option.bind_some]
  rw[ae (by omega),List.getElem?_set_self (by omega)]
  simp only[Option.bind_some,List.set_set]
  have hfd:au g.Mode g.Seen t (some x.Sym) found n=(⟨n.Kind,n.Sym,n.N,n.Kids,n.Pair,n.Span,qT t n.N n.Due (ap found n 0),n.Many⟩,atM n.Due t):=by unfold au;rw[if_neg (by omega),if_neg (by omega),if_neg (by omega),if_neg (by omega),if_neg (by omega),if_neg (by omega)]
  rw[hfd] at hsm
  show(if full=true then av.l1 k g t x N (ns.set i ⟨n.Kind,n.Sym,n.N,n.Kids,n.Pair,n.Span,_,IntKind.wrap .i64 (n.Many+((atM n.Due t).length:Int))⟩) true _ _ else av.l1 k g t x N (ns.set i ⟨n.Kind,n.Sym,n.N,n.Kids,n.Pair,n.Span,_,IntKind.wrap .i64 (n.Many+((atM n.Due t).length:Int))⟩) (decide (40<IntKind.wrap .i64 (n.Many+((atM n.Due t).length:Int)))) _ _)=_
  rw[W _ hsm]
  exact fin _ _ hfd rfl _ rfl
theorem B7 {mode seen t:Int} {ev:Option Int} {f g:List (List GOcc)} {n:GNode} (h0:n.Kind=1∨ap f n 0=ap g n 0) (h1:n.Kind=1∨n.Kind=7∨ap f n 1=ap g n 1) (h2:(n.Kind≠5∧n.Kind≠6)∨ap f n 2=ap g n 2)
  (hk:1≤n.Kind∧n.Kind≤7):au mode seen t ev f n=au mode seen t ev g n:=by
 unfold au
 by_cases k1:n.Kind=1
 ·rw[if_pos k1,if_pos k1]
 have e0:ap f n 0=ap g n 0:=h0.resolve_left k1
 rw[if_neg k1,if_neg k1,e0]
 by_cases k7:n.Kind=7
 ·rw[if_neg (by omega),if_neg (by omega),if_neg (by omega),if_neg (by omega),if_neg (by omega),if_neg (by omega),if_neg (by omega),if_neg (by omega),if_neg (by omega),if_neg (by omega)]
 have e1:ap f n 1=ap g n 1:=(h1.resolve_left k1).resolve_left k7
 rw[e1]
 by_cases k5:n.Kind=5∨n.Kind=6
 ·have e2:ap f n 2=ap g n 2:=h2.resolve_left (by omega)
  rw[e2]
 ·rw[if_neg (show ¬n.Kind=5 by omega),if_neg (show ¬n.Kind=5 by omega),if_neg (show ¬n.Kind=6 by omega),if_neg (show ¬n.Kind=6 by omega)]
theorem El {e:GEx} (hx:eP e) {n:GNode} {es:List GEx} {i:Nat} (hR:jZ es i n e):1≤n.Kind∧n.Kind≤7∧(n.Kind=1∨0<e.Kids.length)∧(n.Kind=1∨n.Kind=7∨1<e.Kids.length)∧((n.Kind≠5∧n.Kind≠6)∨2<e.Kids.length):=by
 rcases dY (bP hx.1).1 with⟨hk,hl⟩|⟨hk,hl⟩|⟨hk,hl⟩|⟨hk,hl⟩|⟨hk,hl⟩|⟨hk,hl⟩|⟨hk,hl⟩ <;> rw[←hR.1] at hk <;> omega
theorem pd {es:List GEx} {i:Nat} {n:GNode} {e:GEx} {found:List (List GOcc)} (h:jZ es i n e) (hi:i≤found.length) {j:Nat} (hj:j<e.Kids.length):ap (found.take i) n j=ap found n j:=by
 obtain⟨q,h1,h2,h3⟩:=h.2.2.2.2 j hj
 unfold ap
 have e0:n.Kids.getD j 0=(q:Int):=by rw[List.getD_eq_getElem?_getD,h2];rfl
 rw[e0,Int.toNat_natCast]
 rw[List.getD_eq_getElem?_getD,List.getD_eq_getElem?_getD,List.getElem?_take_of_lt h1]
theorem Ck {mode seen t:Int} {ev:Option Int} {es:List GEx} {i:Nat} {n:GNode} {e:GEx} {found:List (List GOcc)} (hx:eP e) (h:jZ es i n e) (hi:i≤found.length):au mode seen t ev (found.take i) n=au mode seen t ev found n:=by
 obtain⟨a,b,c,d,f⟩:=El hx h
 exact B7 (c.imp id fun q=>pd h hi q) (d.imp id fun q=>q.imp id fun q=>pd h hi q) (f.imp id fun q=>pd h hi q) ⟨a,b⟩
/-- the parts up to a place -/
def eL (mode seen t:Int) (ev:Option Int) (ns:List GNode) (i:Nat):List GNode×List (List GOcc):=(ns.take i).foldl (mT mode seen t ev) ([],[])
theorem ko {mode seen t:Int} {ev:Option Int} {ns:List GNode} {i:Nat} (h:i<ns.length):eL mode seen t ev ns (i+1)=mT mode seen t ev (eL mode seen t ev ns i) ns[i]:=by
 unfold eL
 rw[wi ns i h,List.foldl_append];rfl
theorem nF (mode seen t:Int) (ev:Option Int) (ns:List GNode):eL mode seen t ev ns ns.length=aA mode seen t ev ns:=by
 unfold eL aA;rw[List.take_length]
theorem jg {mode seen t:Int} {ev:Option Int} {ns:List GNode}:∀{i:Nat},i≤ns.length→(eL mode seen t ev ns i).1.length=i∧(eL mode seen t ev ns i).2.length=i
 |0,_=>by simp[eL]
 |i+1,h=>by
  have:=jg (mode:=mode) (seen:=seen) (t:=t) (ev:=ev) (ns:=ns) (i:=i) (by omega)
  rw[ko (by omega)]
  simp[mT,this.1,this.2]
theorem ww {mode seen t:Int} {ev:Option Int} {ns:List GNode} (j:Nat):∀(d:Nat),j+d≤ns.length→(eL mode seen t ev ns (j+d)).1.take j=(eL mode seen t ev ns j).1∧(eL mode seen t ev ns (j+d)).2.take j=(eL mode seen t ev ns j).2
 |0,h=>by
  have:=jg (mode:=mode) (seen:=seen) (t:=t) (ev:=ev) (ns:=ns) (i:=j) (by omega)
  exact⟨List.take_of_length_le (by rw[Nat.add_zero];omega),List.take_of_length_le (by rw[Nat.add_zero];omega)⟩
 |d+1,h=>by
  have ih:=ww (mode:=mode) (seen:=seen) (t:=t) (ev:=ev) (ns:=ns) j d (by omega)
  have hl:=jg (mode:=mode) (seen:=seen) (t:=t) (ev:=ev) (ns:=ns) (i:=j+d) (by omega)
  rw[show j+(d+1)=j+d+1 by omega,ko (by omega)]
  simp only[mT]
  rw[List.take_append_of_le_length (by omega),List.take_append_of_le_length (by omega)]
  exact ih
theorem xZ {mode seen t:Int} {ev:Option Int} {ns:List GNode} {j:Nat} (h:j≤ns.length):(aA mode seen t ev ns).1.take j=(eL mode seen t ev ns j).1∧(aA mode seen t ev ns).2.take j=(eL mode seen t ev ns j).2:=by
 have:=ww (mode:=mode) (seen:=seen) (t:=t) (ev:=ev) (ns:=ns) j (ns.length-j) (by omega)
 rw[show j+(ns.length-j)=ns.length by omega,nF] at this
 exact this
theorem dS (mode seen t:Int) (ev:Option Int) (ns:List GNode):(aA mode seen t ev ns).1.length=ns.length∧(aA mode seen t ev ns).2.length=ns.length:=by
 rw[←nF];exact jg (Nat.le_refl _)
/-- every part, out of all that was found -/
theorem fQ {mode seen t:Int} {ev:Option Int} {es:List GEx} {ns:List GNode} (hR:Rep es ns) {i:Nat} {n:GNode} (hn:ns[i]? =some n) :
  (aA mode seen t ev ns).1[i]? =some (dX (au mode seen t ev (aA mode seen t ev ns).2 n))∧(aA mode seen t ev ns).2[i]? =some (au mode seen t ev (aA mode seen t ev ns).2 n).2:=by
 have hlt:i<ns.length:=(List.getElem?_eq_some_iff.1 hn).1
 have hni:ns[i]=n:=(List.getElem?_eq_some_iff.1 hn).2
 obtain⟨e,he,hx,hr⟩:=hR.2 i n hn
 have p1:=xZ (mode:=mode) (seen:=seen) (t:=t) (ev:=ev) (ns:=ns) (j:=i+1) (by omega)
 have p0:=xZ (mode:=mode) (seen:=seen) (t:=t) (ev:=ev) (ns:=ns) (j:=i) (by omega)
 have hl:=jg (mode:=mode) (seen:=seen) (t:=t) (ev:=ev) (ns:=ns) (i:=i) (by omega)
 have pl:=dS mode seen t ev ns
 have hf:au mode seen t ev (eL mode seen t ev ns i).2 n=au mode seen t ev (aA mode seen t ev ns).2 n:=by
  rw[←p0.2];exact Ck hx hr (by omega)
 rw[ko hlt] at p1
 simp only[mT] at p1
 rw[hni,hf] at p1
 constructor
 ·have:=congrArg (fun l=>l[i]?) p1.1
  simp only[List.getElem?_take_of_lt (Nat.lt_succ_self i)] at this
  rw[this,List.getElem?_append_right (by omega),hl.1,Nat.sub_self];rfl
 ·have:=congrArg (fun l=>l[i]?) p1.2
  simp only[List.getElem?_take_of_lt (Nat.lt_succ_self i)] at this
  rw[this,List.getElem?_append_right (by omega),hl.2,Nat.sub_self];rfl
/-- what holds of all parts ahead of a point in time -/
def lP (t:Int) (es:List GEx) (ns:List GNode):Prop:=Rep es ns∧ns.length≤12∧∀n∈ns,kg t n
theorem mJ {mode seen t:Int} {ev:Option Int} {es:List GEx} {ns:List GNode} (hR:lP t es ns) (hs:0≤seen∧seen≤23):∀{i:Nat},i≤ns.length→iE t es (eL mode seen t ev ns i).2
 |0,_=>fun j l h=>by simp[eL] at h
 |i+1,h=>by
  have ih:=mJ (mode:=mode) (ev:=ev) hR hs (i:=i) (by omega)
  have hl:=jg (mode:=mode) (seen:=seen) (t:=t) (ev:=ev) (ns:=ns) (i:=i) (by omega)
  rw[ko (by omega)]
  obtain⟨e,he,hx,hr⟩:=hR.1.2 i ns[i] (List.getElem?_eq_getElem (by omega))
  intro j l hj
  simp only[mT] at hj
  rcases Nat.lt_or_ge j i with h1|h1
  ·rw[List.getElem?_append_left (by omega)] at hj
   exact ih j l hj
  ·rw[List.getElem?_append_right (by omega)] at hj
   have:j=i:=by
    have:=(List.getElem?_eq_some_iff.1 hj).1
    simp at this;omega
   subst this
   rw[hl.2,Nat.sub_self,List.getElem?_cons_zero] at hj
   cases hj
   exact⟨e,he,rV hx hr (hR.2.2 _ (List.getElem_mem _)) hl.2 ih hs⟩
theorem oc {mode seen t:Int} {ev:Option Int} {es:List GEx} {ns:List GNode} (hR:lP t es ns) (hs:0≤seen∧seen≤23):iE t es (aA mode seen t ev ns).2:=by
 rw[←nF];exact mJ hR hs (Nat.le_refl _)
def jC (l:List GOcc):Prop:=Asc l∧Ids l
theorem jC.ok {l:List GOcc} (h:jC l):Ok l.length l:=⟨h.1,h.2,Nat.le_refl _⟩
theorem Ok.tidy {m:Nat} {l:List GOcc} (h:Ok m l):jC l:=⟨h.1,h.2.1⟩
theorem sS {mode:Int} {p:GOcc→GOcc→Bool}:∀(r:List GOcc) (s:List GOcc×List GOcc),(r.foldl (em mode p) s).1.length≤s.1.length
 |[],_=>Nat.le_refl _
 |o::r,s=>by
  rw[List.foldl_cons]
  exact Nat.le_trans (sS r _) (List.length_filter_le _ _)
theorem qS {mode:Int} {p:GOcc→GOcc→Bool}:∀(r:List GOcc) (s:List GOcc×List GOcc),jC s.1→jC (r.foldl (em mode p) s).1
 |[],_,h=>h
 |o::r,s,h=>by
  rw[List.foldl_cons]
  exact qS r _ (Ok.tidy ((h.ok).rem (gone:=_)))
theorem jC.merge {l m:List GOcc} (h:jC l) (hm:jC m):jC (bd l m):=⟨cL h.1,ib h.2 hm.2⟩
theorem FO.tidy {t:Int} {s:Nat} {l:List GOcc} (h:FO t s l):jC l:=⟨h.1,h.2.1⟩
theorem Ct {n t:Int} (hn:1≤n∧n≤20):∀(kid acc:List GOcc),(∀o∈kid,o.To=t)→(∀o∈acc,t<o.To∧o.To≤t+20)→∀o∈kid.foldl (fun s o=>cq s (dz n o)) acc,t<o.To∧o.To≤t+20
 |[],_,_,h=>h
 |x::kid,acc,hk,h=>by
  rw[List.foldl_cons]
  refine Ct hn kid _ (fun o ho=>hk o (by simp[ho])) (fun o ho=>?_)
  rcases fZ.1 ho with h1|rfl
  ·exact h o h1
  ·have:=hk x (by simp);show t<x.To+n∧x.To+n≤t+20;omega
/-- how much a part's own lists may grow by its j-th operand -/
def kl (e:GEx) (found:List (List GOcc)) (n:GNode) (j:Nat):Nat:=if j<e.Kids.length then(ap found n j).length else 0
def AR (t:Int) (n:GNode):Prop:=(jC n.Pair.Left∧jC n.Pair.Right∧jC n.Span.Left∧jC n.Span.Mid∧jC n.Due)∧
 All (fun o=>o.To≤t) n.Pair.Left∧All (fun o=>o.To≤t) n.Pair.Right∧All (fun o=>o.To≤t) n.Span.Left∧All (fun o=>o.To≤t) n.Span.Mid
def Em (e:GEx) (found:List (List GOcc)) (n r:GNode):Prop:=r.Pair.Left.length≤n.Pair.Left.length+kl e found n 0∧r.Pair.Right.length≤n.Pair.Right.length+kl e found n 1∧
 r.Span.Left.length≤n.Span.Left.length+kl e found n 0∧r.Span.Mid.length≤n.Span.Mid.length+(if n.Kind=5 then kl e found n 1 else kl e found n 2)∧r.Due.length≤n.Due.length+kl e found n 0
def CJ (n r:GNode):Prop:=r.Kind=n.Kind∧r.Sym=n.Sym∧r.N=n.N∧r.Kids=n.Kids∧r.Many=n.Many
theorem fC {mode seen t:Int} {ev:Option Int} {found:List (List GOcc)} {n:GNode}:CJ n (au mode seen t ev found n).1:=by
 unfold au CJ
 repeat' split
 all_goals exact⟨rfl,rfl,rfl,rfl,rfl⟩
theorem BU {t seen mode:Int} {ev:Option Int} {es:List GEx} {i:Nat} {n:GNode} {e:GEx} {found:List (List GOcc)} (hx:eP e) (hR:jZ es i n e) (hS:kg t n) (hi:i≤found.length) (hF:iE t es (found.take i))
  (hd:∀o∈n.Due,t≤o.To∧o.To≤t+20) :
  AR t (au mode seen t ev found n).1∧Em e found n (au mode seen t ev found n).1∧∀o∈(au mode seen t ev found n).1.Due,(t<o.To∨((au mode seen t ev found n).1.Due=n.Due∧n.Kind≠7))∧o.To≤t+20:=by
 obtain⟨S1,S2,S3,S4,S5,_,_,T1,T2,T3,T4⟩:=hS
 have h12:=hx.2
 have hl':(found.take i).length=i:=by rw[List.length_take];omega
 have base:AR t n:=⟨⟨S1.tidy,S2.tidy,S3.tidy,S4.tidy,S5.tidy⟩,T1,T2,T3,T4⟩
 have gr:Em e found n n:=⟨by omega,by omega,by omega,by omega,by omega⟩
 have du:n.Kind≠7→∀o∈n.Due,(t<o.To∨(n.Due=n.Due∧n.Kind≠7))∧o.To≤t+20:=fun h7 o ho=>⟨.inr ⟨rfl,h7⟩,(hd o ho).2⟩
 have KF:∀j (h:j<e.Kids.length),FO t (exN e.Kids[j]) (ap found n j):=fun j h=>by
  have:=bc hR hl' hF (j:=j) (x:=e.Kids[j]) (by simp)
  rwa [pd hR hi h] at this
 unfold au
 rcases dY (bP hx.1).1 with⟨hk,hl⟩|⟨hk,hl⟩|⟨hk,hl⟩|⟨hk,hl⟩|⟨hk,hl⟩|⟨hk,hl⟩|⟨hk,hl⟩ <;> rw[←hR.1] at hk
 ·rw[if_pos hk];exact⟨base,gr,du (by omega)⟩
 ·rw[if_neg (by omega),if_pos hk];exact⟨base,gr,du (by omega)⟩
 ·have a:=KF 0 (by omega)
  have b:=KF 1 (by omega)
  have hN:exN (e.Kids[0]'(by omega))+exN (e.Kids[1]'(by omega))+1=exN e:=by obtain⟨x,y,hK'⟩:=fT hl;rw[fU hK'];simp only[hK',List.getElem_cons_zero,List.getElem_cons_succ]
  have A:=AB (mode:=mode) (S1.tidy.ok) (S2.tidy.ok) a.2.1 b.2.1 (Nat.le_refl _) (Nat.le_refl _)
  have B:=C2 (mode:=mode) T1 T2 a.2.2.2 b.2.2.2
  have k0:kl e found n 0=(ap found n 0).length:=if_pos (by omega)
  have k1:kl e found n 1=(ap found n 1).length:=if_pos (by omega)
  rw[if_neg (by omega),if_neg (by omega),if_pos hk]
  refine⟨⟨⟨A.1.tidy,A.2.1.tidy,S3.tidy,S4.tidy,S5.tidy⟩,B.1,B.2.1,T3,T4⟩,⟨?_,?_,gr.2.2.1,gr.2.2.2.1,gr.2.2.2.2⟩,du (by omega)⟩
  ·rw[k0];exact A.1.2.2
  ·rw[k1];exact A.2.1.2.2
 ·have a:=KF 0 (by omega)
  have b:=KF 1 (by omega)
  have k0:kl e found n 0=(ap found n 0).length:=if_pos (by omega)
  have B:=o4 (mode:=mode) (p:=before) (ap found n 1) (n.Pair.Left,[]) b.2.2.2 T1 (by simp)
  have C:=qS (mode:=mode) (p:=before) (ap found n 1) (n.Pair.Left,[]) S1.tidy
  rw[if_neg (by omega),if_neg (by omega),if_neg (by omega),if_pos hk]
  refine⟨⟨⟨C.merge a.tidy,S2.tidy,S3.tidy,S4.tidy,S5.tidy⟩,nB B.1 (fun o ho=>by rw[a.2.2.2 o ho];omega),T2,T3,T4⟩,⟨?_,gr.2.1,gr.2.2.1,gr.2.2.2.1,gr.2.2.2.2⟩,du (by omega)⟩
  rw[k0]
  exact Nat.le_trans (cJ _ _) (Nat.add_le_add_right (sS _ _) _)
 ·have a:=KF 0 (by omega)
  have b:=KF 1 (by omega)
  have c:=KF 2 (by omega)
  have k0:kl e found n 0=(ap found n 0).length:=if_pos (by omega)
  have k1:kl e found n 1=(ap found n 1).length:=if_pos (by omega)
  have B:=o4 (mode:=mode) (p:=dF n.Span.Mid) (ap found n 2) (n.Span.Left,[]) c.2.2.2 T3 (by simp)
  have C:=qS (mode:=mode) (p:=dF n.Span.Mid) (ap found n 2) (n.Span.Left,[]) S3.tidy
  rw[if_neg (by omega),if_neg (by omega),if_neg (by omega),if_neg (by omega),if_pos hk]
  refine⟨⟨⟨S1.tidy,S2.tidy,C.merge a.tidy,S4.tidy.merge b.tidy,S5.tidy⟩,T1,T2,nB B.1 (fun o ho=>by rw[a.2.2.2 o ho];omega),nB T4 (fun o ho=>by rw[b.2.2.2 o ho];omega)⟩,⟨gr.1,gr.2.1,?_,?_,gr.2.2.2.2⟩,du (by omega)⟩
  ·rw[k0];exact Nat.le_trans (cJ _ _) (Nat.add_le_add_right (sS _ _) _)
  ·rw[if_pos hk,k1];exact cJ _ _
 ·have a:=KF 0 (by omega)
  have c:=KF 2 (by omega)
  have k0:kl e found n 0=(ap found n 0).length:=if_pos (by omega)
  have k2:kl e found n 2=(ap found n 2).length:=if_pos (by omega)
  rw[if_neg (by omega),if_neg (by omega),if_neg (by omega),if_neg (by omega),if_neg (by omega),if_pos hk]
  refine⟨⟨⟨S1.tidy,S2.tidy,S3.tidy.merge a.tidy,S4.tidy.merge c.tidy,S5.tidy⟩,T1,T2,nB T3 (fun o ho=>by rw[a.2.2.2 o ho];omega),nB T4 (fun o ho=>by rw[c.2.2.2 o ho];omega)⟩,⟨gr.1,gr.2.1,?_,?_,gr.2.2.2.2⟩,du (by omega)⟩
  ·rw[k0];exact cJ _ _
  ·rw[if_neg (by omega),k2];exact cJ _ _
 ·have a:=KF 0 (by omega)
  have k0:kl e found n 0=(ap found n 0).length:=if_pos (by omega)
  have hN:=hR.2.2.1
  rw[if_neg (by omega),if_neg (by omega),if_neg (by omega),if_neg (by omega),if_neg (by omega),if_neg (by omega)]
  have D:=Cr (n:=n.N) (ap found n 0) _ n.Due.length ((S5.tidy.ok).filter (fun o=> !(o.To==t))) a.2.1
  have E:=Ct (n:=n.N) (t:=t) (by omega) (ap found n 0) (n.Due.filter fun o=> !(o.To==t)) a.2.2.2 (fun o ho=>by
   obtain⟨h1,h2⟩:=List.mem_filter.1 ho
   have:=hd o h1
   simp only[Bool.not_eq_true',beq_eq_false_iff_ne,ne_eq] at h2
   omega)
  refine⟨⟨⟨S1.tidy,S2.tidy,S3.tidy,S4.tidy,D.tidy⟩,T1,T2,T3,T4⟩,⟨gr.1,gr.2.1,gr.2.2.1,gr.2.2.2.1,?_⟩,fun o ho=>⟨.inl (E o ho).1,(E o ho).2⟩⟩
  rw[k0];exact D.2.2
def iN (ns:List GNode) (n:GNode) (j:Nat):Int:=((ns[(n.Kids.getD j 0).toNat]?).map (·.Many)).getD 0
def EH (T:Int) (ns:List GNode) (n:GNode):Prop:=AR T n∧(0≤n.Many∧n.Many≤40)∧(n.Kind≠7→n.Due=[])∧(∀o∈n.Due,T<o.To∧o.To≤T+20)∧
 ((n.Pair.Left.length:Int)≤iN ns n 0∧(n.Pair.Right.length:Int)≤iN ns n 1∧(n.Span.Left.length:Int)≤iN ns n 0∧(n.Span.Mid.length:Int)≤(if n.Kind=5 then iN ns n 1 else iN ns n 2)∧(n.Due.length:Int)≤iN ns n 0)
def eO (T:Int) (es:List GEx) (ns:List GNode):Prop:=Rep es ns∧(1≤ns.length∧ns.length≤12)∧∀n∈ns,EH T ns n
theorem pQ {T:Int} {es:List GEx} {ns:List GNode} (h:eO T es ns) (n:GNode) (j:Nat):0≤iN ns n j∧iN ns n j≤40:=by
 unfold iN
 cases hq:ns[(n.Kids.getD j 0).toNat]? with
 |none=>simp
 |some m=>
  have:=(h.2.2 m (List.mem_of_getElem? hq)).2.1
  simpa using this
theorem All.weak {Q R:GOcc→Prop} {l:List GOcc} (h:All Q l) (f:∀o,Q o→R o):All R l:=fun o ho=>f o (h o ho)
theorem eO.ready {T t:Int} {es:List GEx} {ns:List GNode} (h:eO T es ns) (ht:T≤t):lP t es ns:=by
 refine⟨h.1,h.2.1.2,fun n hn=>?_⟩
 obtain⟨⟨⟨g1,g2,g3,g4,g5⟩,t1,t2,t3,t4⟩,hm,_,_,l1,l2,l3,l4,l5⟩:=h.2.2 n hn
 have q0:=pQ h n 0
 have q1:=pQ h n 1
 have q2:=pQ h n 2
 refine⟨g1.ok.mono (by omega),g2.ok.mono (by omega),g3.ok.mono (by omega),g4.ok.mono (by split at l4 <;> omega),g5.ok.mono (by omega),hm.1,hm.2,?_⟩
 exact⟨t1.weak fun o ho=>Int.le_trans ho ht,t2.weak fun o ho=>Int.le_trans ho ht,t3.weak fun o ho=>Int.le_trans ho ht,t4.weak fun o ho=>Int.le_trans ho ht⟩
theorem yi {ns:List GNode} (h:cI ns=false):∀n∈ns,n.Many≤40:=fun n hn=>by
 unfold cI at h
 rw[List.any_eq_false] at h
 have:=h n hn
 simpa using this
theorem AL {mode seen t:Int} {ev:Option Int} {es:List GEx} {ns:List GNode} (hR:Rep es ns) {i:Nat} {n r:GNode} {e:GEx} (hn:ns[i]? =some n) (hr:jZ es i n e) (hk:r.Kids=n.Kids) (j:Nat) :
  iN ns n j+(kl e (aA mode seen t ev ns).2 n j:Nat)≤iN (aA mode seen t ev ns).1 r j:=by
 have hlt:i<ns.length:=(List.getElem?_eq_some_iff.1 hn).1
 unfold iN
 rw[hk]
 cases hq:ns[(n.Kids.getD j 0).toNat]? with
 |some m=>
  obtain⟨p1,p2⟩:=fQ (mode:=mode) (seen:=seen) (t:=t) (ev:=ev) hR hq
  rw[p1]
  simp only[Option.map_some,Option.getD_some]
  have km:=(fC (mode:=mode) (seen:=seen) (t:=t) (ev:=ev) (found:=(aA mode seen t ev ns).2) (n:=m)).2.2.2.2
  show m.Many+_≤(au mode seen t ev _ m).1.Many+_
  rw[km]
  unfold kl
  split
  ·rename_i hj
   have:ap (aA mode seen t ev ns).2 n j=(au mode seen t ev (aA mode seen t ev ns).2 m).2:=by
    unfold ap
    rw[List.getD_eq_getElem?_getD,p2];rfl
   rw[this];exact Int.le_refl _
  ·omega
 |none=>
  have pl:=dS mode seen t ev ns
  have hge:ns.length≤(n.Kids.getD j 0).toNat:=List.getElem?_eq_none_iff.1 hq
  rw[List.getElem?_eq_none (by omega)]
  simp only[Option.map_none,Option.getD_none]
  unfold kl
  split
  ·rename_i hj
   obtain⟨q,h1,h2,_⟩:=hr.2.2.2.2 j hj
   have:n.Kids.getD j 0=(q:Int):=by rw[List.getD_eq_getElem?_getD,h2];rfl
   rw[this] at hge
   omega
  ·omega
/-- one more point in time, nothing due before it -/
theorem ja {T t:Int} {mode seen:Int} {ev:Option Int} {es:List GEx} {ns:List GNode} (h:eO T es ns) (ht:T≤t) (hd:∀n∈ns,∀o∈n.Due,t≤o.To) (hs:0≤seen∧seen≤23) (hfull:cI (aA mode seen t ev ns).1=false) :
  eO t es (aA mode seen t ev ns).1:=by
 have hR:=h.ready ht
 have pl:=dS mode seen t ev ns
 have pf:=oc (mode:=mode) (ev:=ev) hR hs
 refine⟨⟨by rw[pl.1];exact h.1.1,fun i r hr=>?_⟩,by rw[pl.1];exact h.2.1,fun r hr=>?_⟩
 ·have hi:i<ns.length:=by have:=(List.getElem?_eq_some_iff.1 hr).1;omega
  obtain⟨e,he,hx,hn⟩:=h.1.2 i ns[i] (List.getElem?_eq_getElem hi)
  rw[(fQ h.1 (List.getElem?_eq_getElem hi)).1] at hr
  cases hr
  obtain⟨k1,k2,k3,k4,_⟩:=fC (mode:=mode) (seen:=seen) (t:=t) (ev:=ev) (found:=(aA mode seen t ev ns).2) (n:=ns[i])
  refine⟨e,he,hx,k1.trans hn.1,k2.trans hn.2.1,k3.trans hn.2.2.1,?_,?_⟩
  ·show((au mode seen t ev (aA mode seen t ev ns).2 ns[i]).1).Kids.length=_;rw[k4];exact hn.2.2.2.1
  ·show ∀j,j<e.Kids.length→∃q:Nat,q<i∧((au mode seen t ev (aA mode seen t ev ns).2 ns[i]).1).Kids[j]? =some (q:Int)∧es[q]? =e.Kids[j]?;rw[k4];exact hn.2.2.2.2
 ·obtain⟨i,hi,hri⟩:=List.mem_iff_getElem.1 hr
  have hi':i<ns.length:=by omega
  obtain⟨e,he,hx,hn⟩:=h.1.2 i ns[i] (List.getElem?_eq_getElem hi')
  have hm:ns[i]∈ns:=List.getElem_mem hi'
  have pg:=(fQ (mode:=mode) (seen:=seen) (t:=t) (ev:=ev) h.1 (List.getElem?_eq_getElem hi')).1
  rw[List.getElem?_eq_getElem hi] at pg
  have pg:=(Option.some.inj pg).symm.trans hri
  have hno:=yi hfull r hr
  obtain⟨hl,hmany,hdue,hdt,l1,l2,l3,l4,l5⟩:=h.2.2 _ hm
  obtain⟨k1,k2,k3,k4,k5⟩:=fC (mode:=mode) (seen:=seen) (t:=t) (ev:=ev) (found:=(aA mode seen t ev ns).2) (n:=ns[i])
  obtain⟨a,b,c⟩:=BU (mode:=mode) (seen:=seen) (ev:=ev) (found:=(aA mode seen t ev ns).2) hx hn (hR.2.2 _ hm) (by omega) (fun j l hj=>pf j l (by rcases Nat.lt_or_ge j i with h1|h1;rwa [List.getElem?_take_of_lt h1] at hj;rw[List.getElem?_take_eq_none h1] at hj;cases hj))
   (fun o ho=>⟨hd _ hm o ho,by have:=(hdt o ho).2;omega⟩)
  have K:=fun j=>AL (mode:=mode) (seen:=seen) (t:=t) (ev:=ev) (r:=r) h.1 (List.getElem?_eq_getElem hi') hn (by rw[←pg];exact k4) j
  have K0:=K 0
  have K1:=K 1
  have K2:=K 2
  have hk:r.Kind=ns[i].Kind:=by rw[←pg];exact k1
  have hdu:ns[i].Kind≠7→(au mode seen t ev (aA mode seen t ev ns).2 ns[i]).1.Due=[]:=fun h7=>by
   cases hc:(au mode seen t ev (aA mode seen t ev ns).2 ns[i]).1.Due with
   |nil=>rfl
   |cons o l=>
    exfalso
    have e0:ns[i].Due=[]:=hdue h7
    have g5:=b.2.2.2.2
    obtain⟨a2,b2,c2,d2,e2⟩:=El hx hn
    have hcc:(au mode seen t ev (aA mode seen t ev ns).2 ns[i]).1.Due=ns[i].Due:=by
     unfold au
     repeat' split
     all_goals first|rfl|omega
    rw[hcc,e0] at hc;cases hc
  refine⟨?_,⟨?_,hno⟩,?_,?_,?_⟩
  ·rw[←pg];exact a
  ·rw[←pg];show 0≤(au mode seen t ev _ ns[i]).1.Many+_;rw[k5];omega
  ·intro h7;rw[hk] at h7;rw[←pg];exact hdu h7
  ·rw[←pg]
   intro o ho
   have:=c o ho
   refine⟨this.1.elim id fun q=>?_,this.2⟩
   have hz:o∈(au mode seen t ev (aA mode seen t ev ns).2 ns[i]).1.Due:=ho
   rw[hdu q.2] at hz;simp at hz
  ·have e1:r.Pair=(au mode seen t ev (aA mode seen t ev ns).2 ns[i]).1.Pair:=by rw[←pg];rfl
   have e2:r.Span=(au mode seen t ev (aA mode seen t ev ns).2 ns[i]).1.Span:=by rw[←pg];rfl
   have e3:r.Due=(au mode seen t ev (aA mode seen t ev ns).2 ns[i]).1.Due:=by rw[←pg];rfl
   obtain⟨b1,b2,b3,b4,b5⟩:=b
   rw[e1,e2,e3,hk]
   refine⟨by omega,by omega,by omega,?_,by omega⟩
   split at l4
   ·rename_i h5;rw[if_pos h5] at b4⊢;omega
   ·rename_i h5;rw[if_neg h5] at b4⊢;omega
def gO (t:Int) (l:List GOcc):Int:=l.foldl (fun t o=>if o.To<t then o.To else t) t
/-- the first time before another one at which something is due, or that one -/
def bt (ns:List GNode) (before:Int):Int:=ns.foldl (fun t n=>gO t n.Due) before
theorem yu:∀(l:List GOcc) (t:Int),gO t l≤t∧∀o∈l,gO t l≤o.To
 |[],t=>⟨Int.le_refl _,fun o h=>by simp at h⟩
 |x::l,t=>by
  have ih:=yu l (if x.To<t then x.To else t)
  show gO (if x.To<t then x.To else t) l≤t∧∀o∈x::l,gO (if x.To<t then x.To else t) l≤o.To
  refine⟨Int.le_trans ih.1 (by split <;> omega),fun o ho=>?_⟩
  rcases List.mem_cons.1 ho with rfl|ho
  ·exact Int.le_trans ih.1 (by split <;> omega)
  ·exact ih.2 o ho
theorem yH:∀(l:List GOcc) (t:Int),gO t l=t∨∃o∈l,gO t l=o.To
 |[],t=>.inl rfl
 |x::l,t=>by
  show gO (if x.To<t then x.To else t) l=t∨∃o∈x::l,gO (if x.To<t then x.To else t) l=o.To
  rcases yH l (if x.To<t then x.To else t) with h|⟨o,h1,h2⟩
  ·split at h
   ·rename_i hx;rw[if_pos hx];exact .inr ⟨x,by simp,h⟩
   ·rename_i hx;rw[if_neg hx];exact .inl h
  ·exact .inr ⟨o,by simp[h1],h2⟩
theorem lu:∀(ns:List GNode) (b:Int),bt ns b≤b∧∀n∈ns,∀o∈n.Due,bt ns b≤o.To
 |[],b=>⟨Int.le_refl _,fun n h=>by simp at h⟩
 |x::ns,b=>by
  have ih:=lu ns (gO b x.Due)
  have m:=yu x.Due b
  refine⟨Int.le_trans ih.1 m.1,fun n hn o ho=>?_⟩
  rcases List.mem_cons.1 hn with rfl|hn
  ·exact Int.le_trans ih.1 (m.2 o ho)
  ·exact ih.2 n hn o ho
theorem lp:∀(ns:List GNode) (b:Int),bt ns b=b∨∃n∈ns,∃o∈n.Due,bt ns b=o.To
 |[],b=>.inl rfl
 |x::ns,b=>by
  show bt ns (gO b x.Due)=b∨∃n∈x::ns,∃o∈n.Due,bt ns (gO b x.Due)=o.To
  rcases lp ns (gO b x.Due) with h|⟨n,h1,o,h2,h3⟩
  ·rcases yH x.Due b with q|⟨o,q1,q2⟩
   ·exact .inl (h.trans q)
   ·exact .inr ⟨x,by simp,o,q1,h.trans q2⟩
  ·exact .inr ⟨n,by simp[h1],o,h2,h3⟩
def ft (found:List (List GOcc)):List GOcc:=found.getLast?.getD []
def bW (mode seen before:Int):Nat→List GNode→List GOcc→List GNode×Bool×List GOcc
 |0,ns,out=>(ns,false,out)
 |f+1,ns,out=>if bt ns before<before then
   (if cI (aA mode seen (bt ns before) none ns).1=true then((aA mode seen (bt ns before) none ns).1,true,out++ft (aA mode seen (bt ns before) none ns).2)
    else bW mode seen before f (aA mode seen (bt ns before) none ns).1 (out++ft (aA mode seen (bt ns before) none ns).2))
  else(ns,false,out)
/-- an event: nothing, if there is too much -/
def ir (mode seen:Int) (ns:List GNode) (e:GEv):Option (List GNode×List GOcc):=
 if(bW mode seen e.At 1001 ns []).2.1=true then none
 else if cI (aA mode seen e.At (some e.Sym) (bW mode seen e.At 1001 ns []).1).1=true then none
 else some ((aA mode seen e.At (some e.Sym) (bW mode seen e.At 1001 ns []).1).1,(bW mode seen e.At 1001 ns []).2.2++ft (aA mode seen e.At (some e.Sym) (bW mode seen e.At 1001 ns []).1).2)
theorem zm {found:List (List GOcc)} (h:1≤found.length):found[found.length-1]? =some (ft found):=by
 unfold ft
 rw[List.getLast?_eq_getElem?,List.getElem?_eq_getElem (by omega)];rfl
theorem j9 {t:Int} {mode seen:Int} {ev:Option Int} {es:List GEx} {ns:List GNode} (hR:lP t es ns) (h1:1≤ns.length) (hs:0≤seen∧seen≤23):∃e,eP e∧FO t (exN e) (ft (aA mode seen t ev ns).2):=by
 have pl:=dS mode seen t ev ns
 have hl:=zm (found:=(aA mode seen t ev ns).2) (by omega)
 obtain⟨e,he,hf⟩:=oc (mode:=mode) (ev:=ev) hR hs _ _ hl
 have hi:(aA mode seen t ev ns).2.length-1<ns.length:=by omega
 obtain⟨e',he',hx,_⟩:=hR.1.2 _ _ (List.getElem?_eq_getElem hi)
 rw[he] at he';cases he'
 exact⟨e,hx,hf⟩
theorem pv {t:Int} {mode seen:Int} {ev:Option Int} {es:List GEx} {ns:List GNode} (hR:lP t es ns) (h1:1≤ns.length) (hs:0≤seen∧seen≤23) (hf:cI (aA mode seen t ev ns).1=false):(ft (aA mode seen t ev ns).2).length≤40:=by
 have pl:=dS mode seen t ev ns
 have hl:=zm (found:=(aA mode seen t ev ns).2) (by omega)
 have hi:ns.length-1<ns.length:=by omega
 obtain⟨p1,p2⟩:=fQ (mode:=mode) (seen:=seen) (t:=t) (ev:=ev) hR.1 (List.getElem?_eq_getElem hi)
 rw[pl.2,p2] at hl
 have hl:=Option.some.inj hl
 have:=yi hf _ (List.mem_of_getElem? p1)
 have h0:=(hR.2.2 _ (List.getElem_mem hi)).2.2.2.2.2.1
 have k5:=(fC (mode:=mode) (seen:=seen) (t:=t) (ev:=ev) (found:=(aA mode seen t ev ns).2) (n:=ns[ns.length-1])).2.2.2.2
 rw[←hl]
 have this:(au mode seen t ev (aA mode seen t ev ns).2 ns[ns.length-1]).1.Many+((au mode seen t ev (aA mode seen t ev ns).2 ns[ns.length-1]).2.length:Int)≤40:=this
 rw[k5] at this
 omega
/-- all that is due before an event -/
theorem nM {mode seen before:Int} {es:List GEx} (hs:0≤seen∧seen≤23):∀(f:Nat) (ns:List GNode) (out:List GOcc) (T:Int),eO T es ns→T<before→(before-T).toNat≤f→Ids out→out.length+40 * f≤1000000→
  (bW mode seen before f ns out).2.1=false→∃T',T≤T'∧T'<before∧eO T' es (bW mode seen before f ns out).1∧(∀n∈(bW mode seen before f ns out).1,∀o∈n.Due,before≤o.To)∧Ids (bW mode seen before f ns out).2.2∧(bW mode seen before f ns out).2.2.length≤1000000
 |0,ns,out,T,h,hT,hf,_,_,_=>by omega
 |f+1,ns,out,T,h,hT,hf,ho,hol,hno=>by
  have nl:=lu ns before
  unfold bW at hno⊢
  by_cases hlt:bt ns before<before
  ·rw[if_pos hlt] at hno⊢
   by_cases hfu:cI (aA mode seen (bt ns before) none ns).1=true
   ·rw[if_pos hfu] at hno;cases hno
   ·rw[if_neg hfu] at hno⊢
    have hT':T<bt ns before:=by
     rcases lp ns before with q|⟨n,q1,o,q2,q3⟩
     ·omega
     ·rw[q3];exact((h.2.2 n q1).2.2.2.1 o q2).1
    have hfu':cI (aA mode seen (bt ns before) none ns).1=false:=by simpa using hfu
    have hR:=h.ready (t:=bt ns before) (by omega)
    have pi:=ja (mode:=mode) (ev:=none) h (Int.le_of_lt hT') nl.2 hs hfu'
    obtain⟨e,_,lf⟩:=j9 (mode:=mode) (ev:=none) hR h.2.1.1 hs
    have ll:=pv (mode:=mode) (ev:=none) hR h.2.1.1 hs hfu'
    obtain⟨T',a,b,c⟩:=nM hs f _ (out++ft (aA mode seen (bt ns before) none ns).2) (bt ns before) pi hlt (by omega)
     (fun o hh=>by rcases List.mem_append.1 hh with q|q;exact ho o q;exact lf.2.1 o q) (by rw[List.length_append];omega) hno
    exact⟨T',by omega,b,c⟩
  ·rw[if_neg hlt] at hno⊢
   exact⟨T,Int.le_refl _,hT,h,fun n hn o hh=>by have:=nl.2 n hn o hh;omega,ho,show out.length≤1000000 by omega⟩
theorem tl {mode seen:Int} {es:List GEx} {ns ns':List GNode} {e:GEv} {out:List GOcc} {T:Int} (h:eO T es ns) (hT:0≤T∧T<e.At∧e.At≤1000) (hs:0≤seen∧seen≤23) (hst:ir mode seen ns e=some (ns',out)) :
  eO e.At es ns'∧Ids out∧out.length≤1000040:=by
 unfold ir at hst
 split at hst
 ·cases hst
 split at hst
 ·cases hst
 rename_i h1 h2
 cases hst
 obtain⟨T',a,b,c,d,f,g⟩:=nM (mode:=mode) (before:=e.At) hs 1001 ns [] T h hT.2.1 (by omega) (fun o hh=>by simp at hh) (by simp) (by simpa using h1)
 have h2':cI (aA mode seen e.At (some e.Sym) (bW mode seen e.At 1001 ns []).1).1=false:=by simpa using h2
 have hR:=c.ready (t:=e.At) (by omega)
 obtain⟨x,_,lf⟩:=j9 (mode:=mode) (ev:=some e.Sym) hR c.2.1.1 hs
 have ll:=pv (mode:=mode) (ev:=some e.Sym) hR c.2.1.1 hs h2'
 refine⟨ja c (by omega) d hs h2',fun o hh=>?_,by rw[List.length_append];omega⟩
 rcases List.mem_append.1 hh with q|q
 ·exact f o q
 ·exact lf.2.1 o q
theorem uy {mode seen t:Int} {ev:Option Int} {es:List GEx} {nodes:List GNode} (hR:lP t es nodes) (hs:0≤seen∧seen≤23) (full0:Bool) (L:Nat→List GNode→Bool→List (List GOcc)→Int→Option (List (List GOcc)×List GNode×Bool))
  (hend:∀N ns full found,L (N+1) ns full found (nodes.length:Int)=some (found,ns,full))
  (hstep:∀(N i:Nat) (ns:List GNode) (full:Bool) (found:List (List GOcc)) (n:GNode) (e:GEx),i<nodes.length→ns.length=nodes.length→ns[i]? =some n→eP e→jZ es i n e→kg t n→found.length=i→iE t es found→
   L (N+1) ns full found (i:Int)=L N (ns.set i (dX (au mode seen t ev found n))) (full||decide (40<(dX (au mode seen t ev found n)).Many)) (found++[(au mode seen t ev found n).2]) ((i+1:Nat):Int)) :
  ∀(d N i:Nat),i+d=nodes.length→d<N→L N ((eL mode seen t ev nodes i).1++nodes.drop i) (full0||cI (eL mode seen t ev nodes i).1) (eL mode seen t ev nodes i).2 (i:Int)=some ((aA mode seen t ev nodes).2,(aA mode seen t ev nodes).1,full0||cI (aA mode seen t ev nodes).1):=by
 intro d
 induction d with
 |zero=>
  intro N i hi hN
  obtain⟨N,rfl⟩:∃m,N=m+1:=⟨N-1,by omega⟩
  have:i=nodes.length:=by omega
  subst this
  rw[hend,nF,List.drop_length,List.append_nil]
 |succ d ih=>
  intro N i hi hN
  obtain⟨N,rfl⟩:∃m,N=m+1:=⟨N-1,by omega⟩
  have hlt:i<nodes.length:=by omega
  have hl:=jg (mode:=mode) (seen:=seen) (t:=t) (ev:=ev) (ns:=nodes) (i:=i) (by omega)
  obtain⟨e,he,hx,hr⟩:=hR.1.2 i nodes[i] (List.getElem?_eq_getElem hlt)
  have hn:((eL mode seen t ev nodes i).1++nodes.drop i)[i]? =some nodes[i]:=by
   rw[List.getElem?_append_right (by omega),hl.1,Nat.sub_self,List.drop_eq_getElem_cons hlt];rfl
  rw[hstep N i _ _ _ nodes[i] e hlt (by rw[List.length_append,List.length_drop,hl.1];omega) hn hx hr (hR.2.2 _ (List.getElem_mem _)) hl.2 (mJ hR hs (by omega))]
  have:=ih N (i+1) (by omega) (by omega)
  rw[ko hlt] at this
  simp only[mT] at this
  rw[←this,List.drop_eq_getElem_cons hlt,List.set_append_right _ _ (by omega),hl.1,Nat.sub_self,List.set_cons_zero,List.append_assoc,List.singleton_append]
  congr 1
  unfold cI
  rw[List.any_append,Bool.or_assoc]
  simp
theorem tw {found:List (List GOcc)} {m:Nat} (h:found.length=m) (h1:1≤m) (h2:m≤1000) :
  (req ((0:Int)≤(IntKind.wrap .i64 (((found.length:Nat):Int)-1))) (req ((IntKind.wrap .i64 (((found.length:Nat):Int)-1))<(found.length:Nat)) (found[(IntKind.wrap .i64 (((found.length:Nat):Int)-1)).toNat]?)))=some (ft found):=by
 rw[wr _ (by omega),ae (by omega),ae (by omega)]
 unfold ft
 rw[List.getLast?_eq_getElem?,show(((found.length:Nat):Int)-1).toNat=found.length-1 by omega,List.getElem?_eq_getElem (by omega)]
 rfl
theorem s4 {α β:Type} {c:Prop} [Decidable c] {x:Option α} {f:α→Option β}:(req c x).bind f=req c (x.bind f):=by
 unfold req;split <;> rfl
theorem n2_eq (k:Nat) (hk:1000000000000≤k) (g:GGraph) (t:Int) (es:List GEx) (hR:lP t es g.Nodes) (h1:1≤g.Nodes.length) (hs:0≤g.Seen∧g.Seen≤23) (ht:0≤t∧t≤100000) :
  am.f k g t=some (ft (aA g.Mode g.Seen t none g.Nodes).2,⟨g.Mode,(aA g.Mode g.Seen t none g.Nodes).1,g.Seen,g.Now,g.Full||cI (aA g.Mode g.Seen t none g.Nodes).1⟩):=by
 have h12:=hR.2.1
 have:=uy (mode:=g.Mode) (ev:=none) hR hs g.Full (am.l1 k g t) (fun N ns full found=>by rw[am.l1,if_neg (by omega)])
  (fun N i ns full found n e hi hl hn hx hr hS hf hF=>EW k hk g t N i ns full found n e es hi (by omega) hl hn hx hr hS hf hF hs ht) g.Nodes.length k 0 (by omega) (by omega)
 simp only[eL,List.take_zero,List.foldl_nil,List.drop_zero,List.nil_append,cI,List.any_nil,Bool.or_false] at this
 unfold am.f
 rw[show((0:Nat):Int)=0 from rfl] at this
 rw[this]
 simp only[Option.bind_some]
 have hl:=dS g.Mode g.Seen t none g.Nodes
 have q:=congrArg (Option.bind · fun x=>some (x,(⟨g.Mode,(aA g.Mode g.Seen t none g.Nodes).1,g.Seen,g.Now,g.Full||cI (aA g.Mode g.Seen t none g.Nodes).1⟩:GGraph))) (tw hl.2 h1 (by omega))
 simp only[s4,Option.bind_some] at q
 exact q
theorem ev_eq (k:Nat) (hk:1000000000000≤k) (g:GGraph) (t:Int) (x:GEv) (es:List GEx) (hR:lP t es g.Nodes) (h1:1≤g.Nodes.length) (hs:0≤g.Seen∧g.Seen≤23) (ht:0≤t∧t≤100000) :
  av.f k g t x=some (ft (aA g.Mode g.Seen t (some x.Sym) g.Nodes).2,⟨g.Mode,(aA g.Mode g.Seen t (some x.Sym) g.Nodes).1,g.Seen,g.Now,g.Full||cI (aA g.Mode g.Seen t (some x.Sym) g.Nodes).1⟩,x):=by
 have h12:=hR.2.1
 have:=uy (mode:=g.Mode) (ev:=some x.Sym) hR hs g.Full (av.l1 k g t x) (fun N ns full found=>by rw[av.l1,if_neg (by omega)])
  (fun N i ns full found n e hi hl hn hx hr hS hf hF=>EI k hk g t x N i ns full found n e es hi (by omega) hl hn hx hr hS hf hF hs ht) g.Nodes.length k 0 (by omega) (by omega)
 simp only[eL,List.take_zero,List.foldl_nil,List.drop_zero,List.nil_append,cI,List.any_nil,Bool.or_false] at this
 unfold av.f
 rw[show((0:Nat):Int)=0 from rfl] at this
 rw[this]
 simp only[Option.bind_some]
 have hl:=dS g.Mode g.Seen t (some x.Sym) g.Nodes
 have q:=congrArg (Option.bind · fun y=>some (y,(⟨g.Mode,(aA g.Mode g.Seen t (some x.Sym) g.Nodes).1,g.Seen,g.Now,g.Full||cI (aA g.Mode g.Seen t (some x.Sym) g.Nodes).1⟩:GGraph),x)) (tw hl.2 h1 (by omega))
 simp only[s4,Option.bind_some] at q
 exact q
theorem FU (k:Nat) (hk:1000000000000≤k) (n:GNode) (t:Int) (hl:n.Due.length≤1000):aX.l3 k n k t 0=some (gO t n.Due):=by
 have:=cf n.Due (fun s o=>some (if o.To<s then o.To else s)) (aX.l3 k n) (fun s o=>if o.To<s then o.To else s) (fun _ _=>True)
  (fun N s=>by rw[aX.l3,if_neg (by omega)])
  (fun N s i h=>by
   rw[aX.l3,if_pos (by omega),ae (by omega),Int.toNat_natCast,List.getElem?_eq_getElem h]
   simp only[Option.bind_some]
   rw[wrS i (by omega)]
   split <;> rfl)
  (fun i s h _=>⟨rfl,trivial⟩) k t (by omega) trivial
 exact this.1
theorem Fe (k:Nat) (hk:1000000000000≤k) (g:GGraph) (b:Int) (hg:g.Nodes.length≤1000) (hd:∀n∈g.Nodes,n.Due.length≤1000):aX.f k g b=some (bt g.Nodes b,decide (bt g.Nodes b<b),g):=by
 have:=cf g.Nodes (fun s n=>aX.l3 k n k s 0) (aX.l2 k g) (fun s n=>gO s n.Due) (fun _ _=>True)
  (fun N s=>by rw[aX.l2,if_neg (by omega)])
  (fun N s i h=>by
   rw[aX.l2,if_pos (by omega),ae (by omega),ae (by omega),Int.toNat_natCast,List.getElem?_eq_getElem h]
   simp only[Option.bind_some]
   rw[wrS i (by omega)])
  (fun i s h _=>⟨FU k hk _ s (hd _ (List.getElem_mem h)),trivial⟩) k b (by omega) trivial
 unfold aX.f
 rw[this.1];rfl
theorem eO.due {T:Int} {es:List GEx} {ns:List GNode} (h:eO T es ns):∀n∈ns,n.Due.length≤1000:=fun n hn=>by
 have:=(h.2.2 n hn).2.2.2.2.2.2.2.2
 have:=pQ h n 0
 omega
theorem Ap (k:Nat) (hk:1000000000000≤k) (e:GEv) (mode seen now:Int) (es:List GEx) (hs:0≤seen∧seen≤23) (he:e.At≤1000):∀(f N:Nat) (ns:List GNode) (out:List GOcc) (T:Int),eO T es ns→0≤T→T<e.At→(e.At-T).toNat≤f→f+1<N→out.length+40 * f≤1000000→
  cr.l0 k e N mode ns seen now false out=some (mode,(bW mode seen e.At f ns out).1,seen,now,(bW mode seen e.At f ns out).2.1,(bW mode seen e.At f ns out).2.2)
 |0,_,_,_,_,_,_,_,_,_,_=>by omega
 |f+1,N,ns,out,T,h,hT0,hT,hf,hN,hol=>by
  obtain⟨N,rfl⟩:∃m,N=m+1:=⟨N-1,by omega⟩
  have nl:=lu ns e.At
  rw[cr.l0,if_neg (by decide),Fe k hk ⟨mode,ns,seen,now,false⟩ e.At (show ns.length≤1000 by have:=h.2.1.2;omega) h.due]
  simp only[Option.bind_some]
  unfold bW
  by_cases hlt:bt ns e.At<e.At
  ·rw[if_pos hlt,if_pos (by simpa using hlt)]
   have hT':T<bt ns e.At:=by
    rcases lp ns e.At with q|⟨n,q1,o,q2,q3⟩
    ·omega
    ·rw[q3];exact((h.2.2 n q1).2.2.2.1 o q2).1
   have hR:=h.ready (t:=bt ns e.At) (by omega)
   rw[n2_eq k hk ⟨mode,ns,seen,now,false⟩ (bt ns e.At) es hR h.2.1.1 hs (by omega)]
   simp only[Option.bind_some,Bool.false_or]
   obtain⟨x,hx,lf⟩:=j9 (mode:=mode) (ev:=none) hR h.2.1.1 hs
   have ls:=lf.small hx.2
   rw[ae (by omega)]
   by_cases hfu:cI (aA mode seen (bt ns e.At) none ns).1=true
   ·rw[if_pos hfu,hfu]
    obtain⟨N,rfl⟩:∃m,N=m+1:=⟨N-1,by omega⟩
    rw[cr.l0,if_pos rfl]
   ·have hfu':cI (aA mode seen (bt ns e.At) none ns).1=false:=by simpa using hfu
    rw[if_neg hfu,hfu']
    have ll:=pv (mode:=mode) (ev:=none) hR h.2.1.1 hs hfu'
    exact Ap k hk e mode seen now es hs he f N _ _ (bt ns e.At) (ja h (Int.le_of_lt hT') nl.2 hs hfu') (by omega) hlt (by omega) (by omega) (by rw[List.length_append];omega)
  ·rw[if_neg hlt,if_neg (by simpa using hlt)]
theorem EE (k:Nat) (hk:1000000000000≤k) (e:GEv) (g:GGraph) (es:List GEx) (T:Int) (h:eO T es g.Nodes) (hT:0≤T∧T<e.At∧e.At≤1000) (hs:0≤g.Seen∧g.Seen≤23) (hf:g.Full=false) :
  cr.f k g e=some (match ir g.Mode g.Seen g.Nodes e with|none=>([],⟨g.Mode,[],g.Seen+1,e.At,true⟩)|some r=>(r.2,⟨g.Mode,r.1,g.Seen+1,e.At,false⟩)):=by
 unfold cr.f
 rw[hf,Ap k hk e g.Mode g.Seen g.Now es hs hT.2.2 1001 k g.Nodes [] T h hT.1 hT.2.1 (by omega) (by omega) (by simp)]
 simp only[Option.bind_some]
 unfold ir
 rw[wr (g.Seen+1) (by omega)]
 by_cases h1:(bW g.Mode g.Seen e.At 1001 g.Nodes []).2.1=true
 ·rw[if_pos h1,if_pos h1]
 ·rw[if_neg h1,if_neg h1]
  obtain⟨T',a,b,c,d,f,gg⟩:=nM (mode:=g.Mode) (before:=e.At) hs 1001 g.Nodes [] T h hT.2.1 (by omega) (fun o hh=>by simp at hh) (by simp) (by simpa using h1)
  have hR:=c.ready (t:=e.At) (by omega)
  rw[ev_eq k hk ⟨g.Mode,(bW g.Mode g.Seen e.At 1001 g.Nodes []).1,g.Seen,g.Now,false⟩ e.At e es hR c.2.1.1 hs (by omega)]
  simp only[Option.bind_some,Bool.false_or]
  obtain⟨x,hx,lf⟩:=j9 (mode:=g.Mode) (ev:=some e.Sym) hR c.2.1.1 hs
  have ls:=lf.small hx.2
  rw[ae (by omega)]
  by_cases h2:cI (aA g.Mode g.Seen e.At (some e.Sym) (bW g.Mode g.Seen e.At 1001 g.Nodes []).1).1=true
  ·rw[if_pos h2,if_pos h2,wr (g.Seen+1) (by omega)]
  ·rw[if_neg h2,if_neg h2,wr (g.Seen+1) (by omega)]
def xE (n:GNode):Prop:=n.Pair=⟨[],[]⟩∧n.Span=⟨[],[]⟩∧n.Due=[]∧n.Many=0
theorem qr (m n:GNode):iO m n=true↔m.Kind=n.Kind∧m.Sym=n.Sym∧m.N=n.N∧m.Kids=n.Kids:=by
 unfold iO;simp
theorem ut {a b:GEx} (h1:a.Kind=b.Kind) (h2:a.Sym=b.Sym) (h3:a.N=b.N) (h4:a.Kids=b.Kids):a=b:=by
 cases a;cases b;simp only at h1 h2 h3 h4;rw[h1,h2,h3,h4]
theorem oR {α:Type} {l m:List α} {i:Nat} {x:α} (h:l[i]? =some x):(l++m)[i]? =some x:=by
 rw[List.getElem?_append_left (List.getElem?_eq_some_iff.1 h).1];exact h
theorem eP.kid {e x:GEx} (h:eP e) (hx:x∈e.Kids):eP x:=by
 refine⟨(bP h.1).2 x hx,?_⟩
 have:=dQ hx
 have:=h.2
 rw[cK] at this
 omega
def DJ (es:List GEx) (ns:List GNode) (k:Nat) (r:List GNode) (ok:List GEx→Prop):Prop:=∃es' nx,r=ns++nx∧Rep (es++es') (ns++nx)∧nx.length≤k∧(∀n∈nx,xE n)∧ok (es++es')
theorem An {xs:List GEx} (H:∀x∈xs,∀es ns,Rep es ns→DJ es ns (exN x) (cW x ns).2 fun es=>∃q:Nat,(cW x ns).1=(q:Int)∧es[q]? =some x) :
  ∀es ns,Rep es ns→DJ es ns (cl xs) (cc xs ns).2 fun es=>(cc xs ns).1.length=xs.length∧∀(j:Nat) (x:GEx),xs[j]? =some x→∃q:Nat,(cc xs ns).1[j]? =some (q:Int)∧es[q]? =some x:=by
 induction xs with
 |nil=>
  intro es ns h
  rw[mh]
  exact⟨[],[],by simp,by simpa using h,by simp,by simp,rfl,fun j x hj=>by simp at hj⟩
 |cons x xs ih=>
  intro es ns h
  obtain⟨e1,n1,a1,a2,a3,a4,q,a5,a6⟩:=H x (by simp) es ns h
  obtain⟨e2,n2,b1,b2,b3,b4,b5,b6⟩:=ih (fun y hy=>H y (by simp[hy])) _ _ a2
  rw[kP,cS]
  simp only
  rw[a1]
  refine⟨e1++e2,n1++n2,by rw[b1,List.append_assoc],by rw[←List.append_assoc,←List.append_assoc];exact b2,by rw[List.length_append];omega,fun n hn=>(List.mem_append.1 hn).elim (a4 n) (b4 n),by simp[b5],fun j y hj=>?_⟩
  rw[←List.append_assoc]
  cases j with
  |zero=>
   simp only[List.getElem?_cons_zero,Option.some.injEq] at hj
   subst hj
   exact⟨q,by rw[List.getElem?_cons_zero,a5],oR a6⟩
  |succ j=>
   rw[List.getElem?_cons_succ] at hj⊢
   exact b6 j y hj
theorem va:∀x:GEx,eP x→∀es ns,Rep es ns→DJ es ns (exN x) (cW x ns).2 fun es=>∃q:Nat,(cW x ns).1=(q:Int)∧es[q]? =some x:=by
 refine eC fun x ih hx es ns h=>?_
 obtain⟨e1,n1,a1,a2,a3,a4,a5,a6⟩:=An (fun y hy=>ih y hy (hx.kid hy)) es ns h
 rw[mU]
 unfold lR
 rw[a1]
 cases hfi:(ns++n1).findIdx? fun m=>iO m (fy x.Kind x.Sym x.N (cc x.Kids ns).1) with
 |some i=>
  simp only
  rw[List.findIdx?_eq_some_iff_getElem] at hfi
  obtain⟨hi,hk,_⟩:=hfi
  obtain⟨k1,k2,k3,k4⟩:=(qr _ _).1 hk
  obtain⟨e,he,_,hr⟩:=a2.2 i _ (List.getElem?_eq_getElem hi)
  have:e=x:=by
   refine ut (hr.1.symm.trans k1) (hr.2.1.symm.trans k2) (hr.2.2.1.symm.trans k3) (List.ext_getElem? fun j=>?_)
   have hlen:e.Kids.length=x.Kids.length:=by rw[←hr.2.2.2.1,k4];exact a5
   rcases Nat.lt_or_ge j e.Kids.length with hj|hj
   ·obtain⟨q,_,q2,q3⟩:=hr.2.2.2.2 j hj
    obtain⟨q',p1,p2⟩:=a6 j x.Kids[j] (List.getElem?_eq_getElem (by omega))
    rw[k4] at q2
    have hq:some (q':Int)=some (q:Int):=p1.symm.trans q2
    have:q'=q:=Int.ofNat.inj (Option.some.inj hq)
    subst this
    rw[←q3,p2,List.getElem?_eq_getElem (by omega)]
   ·rw[List.getElem?_eq_none hj,List.getElem?_eq_none (by omega)]
  subst this
  exact⟨e1,n1,rfl,a2,by rw[cK];omega,a4,i,rfl,he⟩
 |none=>
  simp only
  refine⟨e1++[x],n1++[fy x.Kind x.Sym x.N (cc x.Kids ns).1],by rw[List.append_assoc],?_,by rw[cK,List.length_append,List.length_singleton];omega,fun n hn=>?_,(ns++n1).length,rfl,?_⟩
  ·rw[←List.append_assoc,←List.append_assoc]
   refine⟨by have:=a2.1;simp only[List.length_append,List.length_singleton] at this⊢;omega,fun i n hn=>?_⟩
   rcases Nat.lt_or_ge i (ns++n1).length with hlt|hge
   ·rw[List.getElem?_append_left hlt] at hn
    obtain⟨e,he,hf,hr⟩:=a2.2 i n hn
    refine⟨e,oR he,hf,hr.1,hr.2.1,hr.2.2.1,hr.2.2.2.1,fun j hj=>?_⟩
    obtain⟨q,q1,q2,q3⟩:=hr.2.2.2.2 j hj
    refine⟨q,q1,q2,?_⟩
    rw[List.getElem?_append_left (by rw[a2.1];omega)];exact q3
   ·rw[List.getElem?_append_right hge] at hn
    have:i=(ns++n1).length:=by
     have:=(List.getElem?_eq_some_iff.1 hn).1
     simp only[List.length_singleton] at this;omega
    subst this
    rw[Nat.sub_self,List.getElem?_cons_zero] at hn
    cases hn
    refine⟨x,?_,hx,rfl,rfl,rfl,a5,fun j hj=>?_⟩
    ·rw[←a2.1,List.getElem?_append_right (Nat.le_refl _),Nat.sub_self];rfl
    ·obtain⟨q,p1,p2⟩:=a6 j x.Kids[j] (List.getElem?_eq_getElem hj)
     have hq:q<(es++e1).length:=(List.getElem?_eq_some_iff.1 p2).1
     refine⟨q,by rw[←a2.1];exact hq,p1,?_⟩
     rw[List.getElem?_append_left hq,p2,List.getElem?_eq_getElem hj]
  ·rcases List.mem_append.1 hn with q|q
   ·exact a4 n q
   ·rw[List.mem_singleton.1 q];exact⟨rfl,rfl,rfl,rfl⟩
  ·rw[←List.append_assoc,←a2.1,List.getElem?_append_right (Nat.le_refl _),Nat.sub_self];rfl
/-- the parts of an expression, before anything has happened -/
theorem oT:Rep [] []:=⟨rfl,fun i n h=>by simp at h⟩
theorem qz {x:GEx} (hx:eP x):∃es,eO 0 es (cW x []).2∧∃q:Nat,es[q]? =some x∧(cW x []).1=q:=by
 obtain⟨es,nx,a1,a2,a3,a4,q,a5,a6⟩:=va x hx [] [] oT
 simp only[List.nil_append] at a1 a2 a6
 rw[a1]
 have hq:=(List.getElem?_eq_some_iff.1 a6).1
 have:=hx.2
 refine⟨es,⟨a2,⟨by rw[←a2.1];omega,by omega⟩,fun n hn=>?_⟩,q,a6,a5⟩
 obtain⟨f1,f2,f3,f4⟩:=a4 n hn
 have g0:jC []:=⟨by simp[Asc],fun o h=>by simp at h⟩
 have A0:All (fun o=>o.To≤(0:Int)) []:=fun o h=>by simp at h
 have mk:∀j,0≤iN nx n j:=fun j=>by
  unfold iN
  cases hq:nx[(n.Kids.getD j 0).toNat]? with
  |none=>simp
  |some m=>have:=(a4 m (List.mem_of_getElem? hq)).2.2.2;simp[this]
 refine⟨⟨by rw[f1,f2,f3];exact⟨g0,g0,g0,g0,g0⟩,by rw[f1,f2];exact⟨A0,A0,A0,A0⟩⟩,by rw[f4];omega,fun _=>f3,by rw[f3];simp,?_⟩
 rw[f1,f2,f3]
 exact⟨by simpa using mk 0,by simpa using mk 1,by simpa using mk 0,by split;exact(by simpa using mk 1);exact(by simpa using mk 2),by simpa using mk 0⟩
theorem BO (k:Nat) (a b:List Int) (hab:a.length=b.length) (ha:a.length≤1000):∀(d n i:Nat),i+d=a.length→d<n→da.l0 k a b n (i:Int)=some (if a.drop i==b.drop i then .ok () else .error false):=by
 intro d
 induction d with
 |zero=>
  intro n i hi hn
  obtain⟨n,rfl⟩:∃m,n=m+1:=⟨n-1,by omega⟩
  rw[da.l0,if_neg (by omega),List.drop_eq_nil_of_le (by omega),List.drop_eq_nil_of_le (by omega)];rfl
 |succ d ih=>
  intro n i hi hn
  obtain⟨n,rfl⟩:∃m,n=m+1:=⟨n-1,by omega⟩
  have hlt:i<a.length:=by omega
  rw[da.l0,if_pos (by omega),ae (by omega),Int.toNat_natCast,List.getElem?_eq_getElem hlt]
  simp only[Option.bind_some]
  rw[ae (by omega),List.getElem?_eq_getElem (by omega)]
  simp only[Option.bind_some]
  rw[wrS i (by omega),ih n (i+1) (by omega) (by omega),List.drop_eq_getElem_cons hlt,List.drop_eq_getElem_cons (show i<b.length by omega),List.cons_beq_cons]
  by_cases h:a[i]=b[i]
  ·rw[if_pos h,h,beq_self_eq_true,Bool.true_and]
  ·rw[if_neg h,beq_false_of_ne h,Bool.false_and];rfl
theorem Ew (k:Nat) (hk:1000000000000≤k) (a b:List Int) (ha:a.length≤1000):da.f k a b=some (a==b):=by
 unfold da.f
 by_cases h:a.length=b.length
 ·rw[if_pos (by omega)]
  have:=BO k a b h ha a.length k 0 (by omega) (by omega)
  rw[show((0:Nat):Int)=0 from rfl,List.drop_zero,List.drop_zero] at this
  rw[this]
  cases hab:a==b <;> rfl
 ·rw[if_neg (by omega)]
  have:(a==b)=false:=by rw[beq_eq_false_iff_ne];intro e;exact h (by rw[e])
  rw[this]
theorem FZ (k:Nat) (hk:1000000000000≤k) (m n:GNode) (hm:m.Kids.length≤1000):ei.f k m n=some (iO m n):=by
 unfold ei.f iO
 rw[Ew k hk _ _ hm]
 simp only[Option.bind_some]
 by_cases h1:m.Kind=n.Kind
 ·rw[if_pos h1,h1,beq_self_eq_true,Bool.true_and]
  by_cases h2:m.Sym=n.Sym
  ·rw[if_pos h2,h2,beq_self_eq_true,Bool.true_and]
   by_cases h3:m.N=n.N
   ·rw[if_pos h3,h3,beq_self_eq_true,Bool.true_and]
   ·rw[if_neg h3,beq_false_of_ne h3,Bool.false_and]
  ·rw[if_neg h2,beq_false_of_ne h2,Bool.false_and]
 ·rw[if_neg h1,beq_false_of_ne h1,Bool.false_and]
theorem zZ (k:Nat) (g1:GNode→Option Bool) (p:GNode→Bool) (l:List GNode) (hl:l.length≤1000) (hp:∀x∈l,g1 x=some (p x)):∀(d i n:Nat),i+d=l.length→d<n→
  bg.l0 k g1 l n (i:Int)=some (match(l.drop i).findIdx? p with|some j=>.error (((i+j:Nat)):Int)|none=>.ok ()):=by
 intro d
 induction d with
 |zero=>
  intro i n hi hn
  obtain⟨n,rfl⟩:∃m,n=m+1:=⟨n-1,by omega⟩
  rw[bg.l0,if_neg (by omega),List.drop_eq_nil_of_le (by omega)];rfl
 |succ d ih=>
  intro i n hi hn
  obtain⟨n,rfl⟩:∃m,n=m+1:=⟨n-1,by omega⟩
  have hlt:i<l.length:=by omega
  rw[bg.l0,if_pos (by omega),ae (by omega),Int.toNat_natCast,List.getElem?_eq_getElem hlt]
  simp only[Option.bind_some]
  rw[hp _ (List.getElem_mem hlt)]
  simp only[Option.bind_some]
  rw[wrS i (by omega),ih (i+1) n (by omega) (by omega),List.drop_eq_getElem_cons hlt,List.findIdx?_cons]
  by_cases h:p l[i]=true
  ·rw[if_pos h,if_pos h];rfl
  ·rw[if_neg h,if_neg h]
   cases(l.drop (i+1)).findIdx? p with
   |none=>rfl
   |some j=>simp only[Option.map_some];congr 3;omega
theorem CA (k:Nat) (hk:1000000000000≤k) (g1:GNode→Option Bool) (p:GNode→Bool) (l:List GNode) (hl:l.length≤1000) (hp:∀x∈l,g1 x=some (p x)) :
  bg.f g1 k l=some (match l.findIdx? p with|some j=>(j:Int)|none=> -1):=by
 unfold bg.f
 have:=zZ k g1 p l hl hp l.length 0 k (by omega) (by omega)
 rw[show((0:Nat):Int)=0 from rfl,List.drop_zero] at this
 rw[this]
 cases l.findIdx? p with
 |none=>rfl
 |some j=>simp
def Kids3 (ns:List GNode):Prop:=∀n∈ns,n.Kids.length≤3
theorem Rep.kids3 {es:List GEx} {ns:List GNode} (h:Rep es ns):Kids3 ns:=fun n hn=>by
 obtain⟨i,hi,rfl⟩:=List.mem_iff_getElem.1 hn
 obtain⟨e,_,hx,hr⟩:=h.2 i _ (List.getElem?_eq_getElem hi)
 rw[hr.2.2.2.1]
 rcases dY (bP hx.1).1 with⟨_,hl⟩|⟨_,hl⟩|⟨_,hl⟩|⟨_,hl⟩|⟨_,hl⟩|⟨_,hl⟩|⟨_,hl⟩ <;> omega
/-- the program adds parts -/
theorem zT:∀x:GEx,eP x→∀(k:Nat),1000000000000+exN x≤k→∀(es:List GEx) (ns:List GNode) (m s n:Int) (f:Bool),Rep es ns→ns.length+exN x≤100→
  bz.f k ⟨m,ns,s,n,f⟩ x=some ((cW x ns).1,⟨m,(cW x ns).2,s,n,f⟩):=by
 refine eC fun x ih hx k hk es ns m s n f h hl=>?_
 obtain⟨k,rfl⟩:∃q,k=q+1:=⟨k-1,by omega⟩
 have hkl:=ga x.Kids
 rw[cK] at hk hl
 have loop:∀(xs:List GEx) (i:Nat),xs=x.Kids.drop i→i≤x.Kids.length→∀(N:Nat) (es:List GEx) (ns:List GNode) (acc:List Int),xs.length<N→acc.length=i→Rep es ns→ns.length+cl xs≤100→
   bz.l0 k (bz.f k) x N m ns s n f acc (i:Int)=some (m,(cc xs ns).2,s,n,f,acc++(cc xs ns).1):=by
  intro xs
  induction xs with
  |nil=>
   intro i hi hle N es ns acc hN ha hR hb
   obtain⟨N,rfl⟩:∃q,N=q+1:=⟨N-1,by simp at hN;omega⟩
   have:x.Kids.length≤i:=by have:=congrArg List.length hi;simp at this;omega
   rw[bz.l0,if_neg (by omega),mh,List.append_nil]
  |cons y ys ihl=>
   intro i hi hle N es ns acc hN ha hR hb
   obtain⟨N,rfl⟩:∃q,N=q+1:=⟨N-1,by simp at hN;omega⟩
   have hlt:i<x.Kids.length:=by have:=congrArg List.length hi;simp at this;omega
   rw[List.drop_eq_getElem_cons hlt] at hi
   obtain⟨rfl,rfl⟩:=List.cons.inj hi
   have hm:=List.getElem_mem hlt
   have hfy:=hx.kid hm
   have hny:=dQ hm
   rw[cS] at hb
   obtain⟨e1,n1,a1,a2,a3,_⟩:=va _ hfy es ns hR
   rw[bz.l0,if_pos (by omega),ae (by omega),Int.toNat_natCast,List.getElem?_eq_getElem hlt]
   simp only[Option.bind_some]
   rw[ih _ hm hfy k (by omega) es ns m s n f hR (by omega)]
   simp only[Option.bind_some]
   rw[ae (by omega),wrS i (by omega),ihl (i+1) rfl (by omega) N (es++e1) _ _ (by simp at hN⊢;omega) (by simp;omega) (by rw[a1];exact a2) (by rw[a1,List.length_append];omega),kP]
   simp
 have l0:=loop x.Kids 0 rfl (by omega) k es ns [] (by omega) rfl h (by omega)
 rw[bz.f]
 simp only
 rw[show((0:Nat):Int)=0 from rfl] at l0
 rw[l0]
 simp only[Option.bind_some,List.nil_append]
 obtain⟨e1,n1,a1,a2,a3,a4,a5,a6⟩:=An (fun y hy=>va y (hx.kid hy)) es ns h
 have k3:=a2.kids3
 rw[mU]
 unfold lR
 have nl:(cc x.Kids ns).2.length≤100:=by rw[a1,List.length_append];omega
 rw[CA k (by omega) (fun y0=>ei.f k y0 ⟨x.Kind,x.Sym,x.N,(cc x.Kids ns).1,⟨[],[]⟩,⟨[],[]⟩,[],0⟩) (fun q=>iO q (fy x.Kind x.Sym x.N (cc x.Kids ns).1)) _ (by omega) (fun q hq=>FZ k (by omega) q _ (by rw[a1] at hq;have:=k3 q hq;omega))]
 simp only[Option.bind_some]
 cases(cc x.Kids ns).2.findIdx? fun q=>iO q (fy x.Kind x.Sym x.N (cc x.Kids ns).1) with
 |none=>
  simp only
  rw[if_pos (by decide),ae (by omega)]
  rfl
 |some j=>
  simp only
  rw[if_neg (by omega)]
theorem u6 (mode:Int):dr.f mode=some (decide (0≤mode)&&decide (mode≤4)):=by
 unfold dr.f
 rw[pF];rfl
theorem uo {mode:Int} (h:0≤mode∧mode≤4):dr.f mode=some true:=by
 rw[u6,decide_eq_true h.1,decide_eq_true h.2];rfl
theorem vl (k:Nat) (hk:2000000000000≤k) (x:GEx) (mode:Int) (hx:exN x≤1000000) :
  jb.f k x mode=some (if jB x=true∧(0≤mode∧mode≤4) then⟨mode,(cW x []).2,0,0,false⟩ else⟨0,[],0,0,false⟩):=by
 unfold jb.f
 rw[oa x (by omega) k (by omega)]
 simp only[Option.bind_some]
 by_cases h1:jB x=true
 ·rw[if_pos h1]
  have hf:=iW h1
  by_cases h2:0≤mode∧mode≤4
  ·rw[uo h2,if_pos ⟨h1,h2⟩]
   simp only[Option.bind_some,if_true]
   rw[zT x ⟨hf.2,hf.1⟩ k (by omega) [] [] mode 0 0 false oT (by simp;omega)]
   rfl
  ·rw[u6 mode,if_neg (fun q=>h2 q.2)]
   simp only[Option.bind_some]
   rw[if_neg (by simpa using h2)]
 ·rw[if_neg h1,if_neg (fun q=>h1 q.1)]
/-- all events, one after another -/
def gN (mode:Int):List GEv→Int→List GNode→List GOcc→Option (List GOcc)
 |[],_,_,out=>some out
 |e::l,seen,ns,out=>match ir mode seen ns e with
  |none=>none
  |some r=>gN mode l (seen+1) r.1 (bd out r.2)
def ka (x:GEx) (mode:Int) (l:List GEv):List GOcc×Bool:=if jB x=true∧(0≤mode∧mode≤4)∧gL l=true then
  (match gN mode l 0 (cW x []).2 [] with|none=>([],false)|some out=>(out,true)) else([],false)
theorem Ce (k:Nat) (hk:1000000000000≤k) (mode:Int) (l:List GEv) (hl:jr l) (es:List GEx):∀(d N i:Nat) (ns:List GNode) (now T:Int) (out:List GOcc),i+d=l.length→d<N→eO T es ns→0≤T→(∀e∈l.drop i,T<e.At)→Asc out→Ids out→out.length≤i * 1000040→
  cH.l0 k l N mode ns (i:Int) now false out (i:Int)=some (match gN mode (l.drop i) (i:Int) ns out with|none=>.error ([],false)|some r=>.ok r)∧(∀r,gN mode (l.drop i) (i:Int) ns out=some r→Ids r∧r.length≤l.length * 1000040):=by
 intro d
 induction d with
 |zero=>
  intro N i ns now T out hi hN hG hT hlt ha hid hol
  obtain⟨N,rfl⟩:∃m,N=m+1:=⟨N-1,by omega⟩
  rw[cH.l0,if_neg (by omega),List.drop_eq_nil_of_le (by omega)]
  refine⟨rfl,fun r hr=>?_⟩
  cases hr
  have:i=l.length:=by omega
  subst this
  exact⟨hid,hol⟩
 |succ d ih=>
  intro N i ns now T out hi hN hG hT hlt ha hid hol
  obtain⟨N,rfl⟩:∃m,N=m+1:=⟨N-1,by omega⟩
  have hii:i<l.length:=by omega
  have h24:=hl.2.2
  have hm:=List.getElem_mem hii
  have he:=hl.2.1 _ hm
  have hTe:=hlt l[i] (by rw[List.drop_eq_getElem_cons hii];exact List.mem_cons_self)
  rw[List.drop_eq_getElem_cons hii]
  rw[cH.l0,if_pos (by omega),ae (by omega),Int.toNat_natCast,List.getElem?_eq_getElem hii]
  simp only[Option.bind_some]
  rw[EE k hk l[i] ⟨mode,ns,i,now,false⟩ es T hG ⟨hT,hTe,he.2⟩ (by simp only;omega) rfl]
  simp only[Option.bind_some]
  unfold gN
  cases hst:ir mode (i:Int) ns l[i] with
  |none=>
   simp only
   rw[bV k hk out [] (by simp;omega) hid.few (fun o h=>by simp at h) ha]
   simp only[Option.bind_some,if_true]
   exact⟨trivial,fun r hr=>by cases hr⟩
  |some p=>
   obtain⟨ns',f⟩:=p
   simp only
   obtain⟨g1,g2,g3⟩:=tl hG ⟨hT,hTe,he.2⟩ (by omega) hst
   rw[bV k hk out f (by omega) hid.few g2.few ha]
   simp only[Option.bind_some,Bool.false_eq_true,if_false]
   rw[wrS i (by omega),show(i:Int)+1=((i+1:Nat):Int) by omega]
   refine ih N (i+1) ns' l[i].At l[i].At (bd out f) (by omega) (by omega) g1 (by omega) (fun e hm'=>?_) (cL ha) (ib hid g2) (by have:=cJ f out;omega)
   obtain⟨j,hj,rfl⟩:=List.mem_iff_getElem.1 hm'
   rw[List.getElem_drop]
   exact(List.pairwise_iff_getElem.1 hl.1) i (i+1+j) hii (by rw[List.length_drop] at hj;omega) (by omega)
theorem uZ (k:Nat) (hk:2000000000000≤k) (x:GEx) (mode:Int) (l:List GEv) (hx:exN x≤1000000) (hl:l.length≤1000000):cH.f k x mode l=some (ka x mode l):=by
 unfold cH.f ka
 rw[oa x (by omega) k (by omega)]
 simp only[Option.bind_some]
 by_cases h1:jB x=true
 ·rw[if_pos h1]
  have hf:=iW h1
  by_cases h2:0≤mode∧mode≤4
  ·rw[uo h2]
   simp only[Option.bind_some,if_true]
   rw[qE k (by omega) l hl]
   simp only[Option.bind_some]
   by_cases h3:gL l=true
   ·rw[if_pos h3,if_pos ⟨h1,h2,h3⟩,vl k hk x mode hx,if_pos ⟨h1,h2⟩]
    simp only[Option.bind_some]
    have hu:=pr h3
    obtain⟨es,hG,_⟩:=qz (x:=x) ⟨hf.2,hf.1⟩
    obtain⟨q,q2⟩:=Ce k (by omega) mode l hu es l.length k 0 (cW x []).2 0 0 [] (by omega) (by have:=hu.2.2;omega) hG (by omega) (fun e he=>by have:=hu.2.1 e (List.mem_of_mem_drop he);omega) (by simp[Asc]) (fun o h=>by simp at h) (by simp)
    rw[show((0:Nat):Int)=0 from rfl,List.drop_zero] at q q2
    rw[q]
    cases hg:gN mode l 0 (cW x []).2 [] with
    |none=>rfl
    |some r=>
     simp only[Option.bind_some]
     have:=q2 r hg
     have h24:=hu.2.2
     rw[sq k (by omega) r (by omega) this.1.few]
     rfl
   ·rw[if_neg h3,if_neg (fun q=>h3 q.2.2)]
  ·rw[u6 mode,if_neg (fun q=>h2 q.2.1)]
   simp only[Option.bind_some]
   rw[if_neg (by simpa using h2)]
 ·rw[if_neg h1,if_neg (fun q=>h1 q.1)]
/-- made of events seen so far -/
def DH (s:Int) (o:GOcc):Prop:=1≤o.From∧o.From≤o.To∧o.Ids≠[]∧∀x∈o.Ids,x<s
theorem DH.mono {s s':Int} (h:s≤s') {o:GOcc} (ho:DH s o):DH s' o:=⟨ho.1,ho.2.1,ho.2.2.1,fun x hx=>by have:=ho.2.2.2 x hx;omega⟩
theorem All.app {Q:GOcc→Prop} {l m:List GOcc} (h:All Q l) (hm:All Q m):All Q (l++m):=fun x hx=>(List.mem_append.1 hx).elim (h x) (hm x)
theorem CB {a b:GOcc} (h:a.To<b.To):bh a b=true:=(lQ a b).2 (.inl h)
theorem iF {l m:List GOcc} (hl:Asc l) (hm:Asc m) (h:∀x∈l,∀y∈m,x.To<y.To):Asc (l++m):=List.pairwise_append.2 ⟨hl,hm,fun x hx y hy=>CB (h x hx y hy)⟩
theorem kL:∀(m l:List GOcc),Asc (l++m)→bd l m=l++m
 |[],l,_=>by simp[bd]
 |o::m,l,h=>by
  have h1:Asc ((l++[o])++m):=by rw[List.append_assoc];exact h
  have h2:=(List.pairwise_append.1 h1).1
  show bd (cq l o) m=_
  rw[wF (Ed h2),kL m _ h1,List.append_assoc];rfl
def kH (ns:List GNode):Int:=(ns.getLast?.map (·.Many)).getD 0
theorem uU {T:Int} {mode seen t:Int} {ev:Option Int} {es:List GEx} {ns:List GNode} (hR:Rep es ns) (h1:1≤ns.length):kH (aA mode seen t ev ns).1=kH ns+((ft (aA mode seen t ev ns).2).length:Nat):=by
 have pl:=dS mode seen t ev ns
 have hi:ns.length-1<ns.length:=by omega
 obtain⟨p1,p2⟩:=fQ (mode:=mode) (seen:=seen) (t:=t) (ev:=ev) hR (List.getElem?_eq_getElem hi)
 have k5:=(fC (mode:=mode) (seen:=seen) (t:=t) (ev:=ev) (found:=(aA mode seen t ev ns).2) (n:=ns[ns.length-1])).2.2.2.2
 unfold kH ft
 rw[List.getLast?_eq_getElem?,List.getLast?_eq_getElem?,List.getLast?_eq_getElem?,pl.1,pl.2,p1,p2,List.getElem?_eq_getElem hi]
 simp only[Option.map_some,Option.getD_some]
 show(au mode seen t ev (aA mode seen t ev ns).2 ns[ns.length-1]).1.Many+_=_
 rw[k5]
theorem wy {mode seen before:Int} {es:List GEx} (hs:0≤seen∧seen≤23) (T0:Int):∀(f:Nat) (ns:List GNode) (out:List GOcc) (T:Int),eO T es ns→T0≤T→T<before→(before-T).toNat≤f→Asc out→(∀o∈out,T0<o.To∧o.To≤T)→
  (bW mode seen before f ns out).2.1=false→Asc (bW mode seen before f ns out).2.2∧(∀o∈(bW mode seen before f ns out).2.2,T0<o.To∧o.To<before)∧kH (bW mode seen before f ns out).1+(out.length:Nat)=kH ns+((bW mode seen before f ns out).2.2.length:Nat)
 |0,ns,out,T,h,_,hT,hf,_,_,_=>by omega
 |f+1,ns,out,T,h,h0,hT,hf,ha,ho,hno=>by
  have nl:=lu ns before
  unfold bW at hno⊢
  by_cases hlt:bt ns before<before
  ·rw[if_pos hlt] at hno⊢
   by_cases hfu:cI (aA mode seen (bt ns before) none ns).1=true
   ·rw[if_pos hfu] at hno;cases hno
   ·rw[if_neg hfu] at hno⊢
    have hT':T<bt ns before:=by
     rcases lp ns before with q|⟨n,q1,o,q2,q3⟩
     ·omega
     ·rw[q3];exact((h.2.2 n q1).2.2.2.1 o q2).1
    have hfu':cI (aA mode seen (bt ns before) none ns).1=false:=by simpa using hfu
    have hR:=h.ready (t:=bt ns before) (by omega)
    have pi:=ja (mode:=mode) (ev:=none) h (Int.le_of_lt hT') nl.2 hs hfu'
    obtain⟨e,_,lf⟩:=j9 (mode:=mode) (ev:=none) hR h.2.1.1 hs
    have rp:=uU (T:=T) (mode:=mode) (seen:=seen) (t:=bt ns before) (ev:=none) h.1 h.2.1.1
    obtain⟨a,b,c⟩:=wy (mode:=mode) hs T0 f _ (out++ft (aA mode seen (bt ns before) none ns).2) (bt ns before) pi (by omega) hlt (by omega)
     (iF ha lf.1 (fun x hx y hy=>by rw[lf.2.2.2 y hy];have:=(ho x hx).2;omega))
     (fun o hh=>by rcases List.mem_append.1 hh with q|q;exact⟨(ho o q).1,by have:=(ho o q).2;omega⟩;rw[lf.2.2.2 o q];omega) hno
    refine⟨a,b,?_⟩
    rw[List.length_append] at c
    omega
  ·rw[if_neg hlt] at hno⊢
   exact⟨ha,fun o hh=>⟨(ho o hh).1,by have:=(ho o hh).2;omega⟩,rfl⟩
theorem Cq {mode seen:Int} {es:List GEx} {ns ns':List GNode} {e:GEv} {out:List GOcc} {T:Int} (h:eO T es ns) (hT:0≤T∧T<e.At∧e.At≤1000) (hs:0≤seen∧seen≤23) (hst:ir mode seen ns e=some (ns',out)) :
  eO e.At es ns'∧Ids out∧Asc out∧(∀o∈out,T<o.To∧o.To≤e.At)∧kH ns'=kH ns+(out.length:Nat)∧0≤kH ns∧kH ns'≤40:=by
 obtain⟨i1,i2,_⟩:=tl h hT hs hst
 unfold ir at hst
 split at hst
 ·cases hst
 split at hst
 ·cases hst
 rename_i h1 h2
 cases hst
 obtain⟨T',a,b,c,d,f,g⟩:=nM (mode:=mode) (before:=e.At) hs 1001 ns [] T h hT.2.1 (by omega) (fun o hh=>by simp at hh) (by simp) (by simpa using h1)
 obtain⟨m1,m2,m3⟩:=wy (mode:=mode) (before:=e.At) hs T 1001 ns [] T h (Int.le_refl _) hT.2.1 (by omega) (by simp[Asc]) (fun o hh=>by simp at hh) (by simpa using h1)
 have hR:=c.ready (t:=e.At) (by omega)
 obtain⟨x,_,lf⟩:=j9 (mode:=mode) (ev:=some e.Sym) hR c.2.1.1 hs
 have rp:=uU (T:=T) (mode:=mode) (seen:=seen) (t:=e.At) (ev:=some e.Sym) c.1 c.2.1.1
 refine⟨i1,i2,iF m1 lf.1 (fun x hx y hy=>by rw[lf.2.2.2 y hy];exact(m2 x hx).2),fun o hh=>?_,?_,?_,?_⟩
 ·rcases List.mem_append.1 hh with q|q
  ·have:=m2 o q;omega
  ·rw[lf.2.2.2 o q];omega
 ·rw[rp,List.length_append]
  simp only[List.length_nil] at m3
  omega
 ·unfold kH
  cases hq:ns.getLast? with
  |none=>simp
  |some m=>have:=(h.2.2 m (List.mem_of_getLast? hq)).2.1.1;simpa using this
 ·unfold kH
  cases hq:(aA mode seen e.At (some e.Sym) (bW mode seen e.At 1001 ns []).1).1.getLast? with
  |none=>simp
  |some m=>have:=(i1.2.2 m (List.mem_of_getLast? hq)).2.1.2;simpa using this
def gv (mode T kd n:Int) (r:List (List GOcc)):List GOcc:=
 if kd=2 then bd (r.getD 0 []) (r.getD 1 []) else if kd=3 then fG (iR mode) (r.getD 0 []) (r.getD 1 []) else if kd=4 then fG (iS mode) (r.getD 0 []) (r.getD 1 []) else
 if kd=5 then fH (jk mode) (r.getD 0 []) (r.getD 1 []) (r.getD 2 []) else if kd=6 then fH (gx mode) (r.getD 0 []) (r.getD 1 []) (r.getD 2 []) else dE n T (r.getD 0 [])
mutual
def bf (mode:Int) (l:List GEv) (T:Int):GEx→List GOcc
 |⟨kd,sy,n,ks⟩=>if kd=1 then dx T (bY sy 0 l) else gv mode T kd n (uT mode l T ks)
def uT (mode:Int) (l:List GEv) (T:Int):List GEx→List (List GOcc)
 |[]=>[]
 |x::xs=>bf mode l T x::uT mode l T xs
end
mutual
def gl:GEx→List GEx
 |⟨kd,sy,n,ks⟩=>⟨kd,sy,n,ks⟩::jy ks
def jy:List GEx→List GEx
 |[]=>[]
 |x::xs=>gl x++jy xs
end
theorem wG (mode:Int) (l:List GEv) (T:Int):∀xs:List GEx,uT mode l T xs=xs.map (bf mode l T)
 |[]=>by simp only[uT,List.map_nil]
 |x::xs=>by simp only[uT,List.map_cons,wG mode l T xs]
theorem mW (mode:Int) (l:List GEv) (T:Int) (x:GEx):bf mode l T x=if x.Kind=1 then dx T (bY x.Sym 0 l) else gv mode T x.Kind x.N (x.Kids.map (bf mode l T)):=by
 obtain⟨a,b,c,d⟩:=x
 simp only[bf,wG]
theorem jn {y:GEx}:∀{xs:List GEx},y∈jy xs↔∃x∈xs,y∈gl x
 |[]=>by simp[jy]
 |x::xs=>by
  simp only[jy,List.mem_append,jn (xs:=xs),List.mem_cons]
  constructor
  ·rintro(h|⟨z,hz,h⟩)
   ·exact⟨x,.inl rfl,h⟩
   ·exact⟨z,.inr hz,h⟩
  ·rintro⟨z,rfl|hz,h⟩
   ·exact .inl h
   ·exact .inr ⟨z,hz,h⟩
theorem eX {x y:GEx}:y∈gl x↔y=x∨∃z∈x.Kids,y∈gl z:=by
 obtain⟨a,b,c,d⟩:=x
 simp only[gl,List.mem_cons,jn]
theorem Bn:∀x:GEx,∀{y z:GEx},y∈gl x→z∈gl y→z∈gl x:=by
 refine eC fun x ih y z hy hz=>?_
 rcases eX.1 hy with rfl|⟨k,hk,h⟩
 ·exact hz
 ·exact eX.2 (.inr ⟨k,hk,ih k hk h hz⟩)
theorem ES {x k:GEx} (h:k∈x.Kids):k∈gl x:=eX.2 (.inr ⟨k,h,eX.2 (.inl rfl)⟩)
theorem nt (f:GEx→List GOcc) (xs:List GEx) (j:Nat):(∃x∈xs,(xs.map f).getD j []=f x)∨(xs.map f).getD j []=[]:=by
 rw[List.getD_eq_getElem?_getD,List.getElem?_map]
 cases h:xs[j]? with
 |none=>exact .inr rfl
 |some x=>exact .inl ⟨x,List.mem_of_getElem? h,rfl⟩
theorem vN {σ:Type} (f:σ→Int→σ×List GOcc):∀(U:List Int) (s:σ×List GOcc),Asc s.2→Asc (U.foldl (dk f) s).2
 |[],s,h=>h
 |t::U,s,h=>vN f U _ (cL h)
theorem rN:Asc ([]:List GOcc):=by simp[Asc]
theorem ym {f:Two→List GOcc→List GOcc→Two×List GOcc} {a b:List GOcc}:Asc (fG f a b):=vN _ _ _ rN
theorem yx {f:Two→List GOcc→List GOcc→List GOcc→Two×List GOcc} {a b c:List GOcc}:Asc (fH f a b c):=vN _ _ _ rN
theorem sd {mode:Int} {l:List GEv} (hl:l.Pairwise fun a b=>a.At<b.At) (T:Int):∀x:GEx,Asc (bf mode l T x):=by
 refine eC fun x ih=>?_
 rw[mW]
 have K:∀j,Asc ((x.Kids.map (bf mode l T)).getD j []):=fun j=>by
  rcases nt (bf mode l T) x.Kids j with⟨y,hy,e⟩|e <;> rw[e]
  ·exact ih y hy
  ·exact rN
 split
 ·exact mZ (gB hl)
 unfold gv
 repeat' split
 ·exact cL (K 0)
 ·exact ym
 ·exact ym
 ·exact yx
 ·exact yx
 ·exact n6 (K 0)
theorem EU {T T':Int} (h:T≤T') (l:List GOcc):dx T (dx T' l)=dx T l:=by
 unfold dx
 rw[List.filter_filter]
 apply List.filter_congr
 intro o _
 rw[Bool.eq_iff_iff]
 simp only[Bool.and_eq_true,decide_eq_true_eq];omega
theorem DY (T:Int) (f g:GEx→List GOcc) (xs:List GEx) (h:∀x∈xs,dx T (f x)=g x) (j:Nat):dx T ((xs.map f).getD j [])=(xs.map g).getD j []:=by
 rw[List.getD_eq_getElem?_getD,List.getD_eq_getElem?_getD,List.getElem?_map,List.getElem?_map]
 cases hx:xs[j]? with
 |none=>rfl
 |some x=>exact h x (List.mem_of_getElem? hx)
theorem Cu {x:GEx} (h:bx x=true) (h1:x.Kind≠1) (h2:x.Kind≠2) (h3:x.Kind≠3) (h4:x.Kind≠4) (h5:x.Kind≠5) (h6:x.Kind≠6):x.Kind=7∧x.Kids.length=1∧1≤x.N∧x.N≤20:=by
 rcases dY (bP h).1 with q|q|q|q|q|q|q
 all_goals first|(exfalso;omega)|exact q
theorem AE {mode:Int} {l:List GEv} (hl:l.Pairwise fun a b=>a.At<b.At) {T T':Int} (h:T≤T'):∀x:GEx,bx x=true→dx T (bf mode l T' x)=bf mode l T x:=by
 refine eC fun x ih hf=>?_
 rw[mW,mW]
 have K:=DY T (bf mode l T') (bf mode l T) x.Kids (fun y hy=>ih y hy ((bP hf).2 y hy))
 have A:∀j,Asc ((x.Kids.map (bf mode l T')).getD j []):=fun j=>by
  rcases nt (bf mode l T') x.Kids j with⟨y,hy,e⟩|e <;> rw[e]
  ·exact sd hl T' y
  ·exact rN
 by_cases h1:x.Kind=1
 ·rw[if_pos h1,if_pos h1,EU h]
 rw[if_neg h1,if_neg h1]
 unfold gv
 by_cases h2:x.Kind=2
 ·rw[if_pos h2,if_pos h2,C3 (A 0),K,K]
 rw[if_neg h2,if_neg h2]
 by_cases h3:x.Kind=3
 ·rw[if_pos h3,if_pos h3,yB (fun t=>AW t mode),K,K]
 rw[if_neg h3,if_neg h3]
 by_cases h4:x.Kind=4
 ·rw[if_pos h4,if_pos h4,yB (fun t=>Bh t mode),K,K]
 rw[if_neg h4,if_neg h4]
 by_cases h5:x.Kind=5
 ·rw[if_pos h5,if_pos h5,zt (fun t=>BE t mode),K,K,K]
 rw[if_neg h5,if_neg h5]
 by_cases h6:x.Kind=6
 ·rw[if_pos h6,if_pos h6,zt (fun t=>Af t mode),K,K,K]
 rw[if_neg h6,if_neg h6]
 obtain⟨_,_,n1,_⟩:=Cu hf h1 h2 h3 h4 h5 h6
 rw[←B0 x.N T T' _ n1 h,K]
theorem EX {mode:Int} {l:List GEv} (hl:l.Pairwise fun a b=>a.At<b.At) {T T':Int} (h:T≤T') {x:GEx} (hf:bx x=true):(bf mode l T x).length≤(bf mode l T' x).length:=by
 rw[←AE hl h x hf];exact List.length_filter_le _ _
theorem Cw {mode:Int} {l:List GEv} (hl:l.Pairwise fun a b=>a.At<b.At) {T:Int} {x:GEx} (hf:bx x=true):∀o∈bf mode l T x,o.To≤T:=fun o ho=>by
 rw[←AE hl (Int.le_refl T) x hf] at ho
 exact(iH.1 ho).2
theorem we:∀x:GEx,bx x=true→∀y∈gl x,bx y=true:=by
 refine eC fun x ih hf y hy=>?_
 rcases eX.1 hy with rfl|⟨k,hk,h⟩
 ·exact hf
 ·exact ih k hk ((bP hf).2 k hk) y h
def xz (mode:Int) (l:List GEv) (x:GEx):Prop:=∀y∈gl x,(bf mode l (eM l) y).length≤40
theorem wj {mode:Int} {l:List GEv} {f:GEx→List GOcc}:∀{xs:List GEx},(∀x∈xs,dA mode l x=(f x,true))→gb mode l xs=some (xs.map f)
 |[],_=>mE mode l
 |x::xs,h=>by
  rw[lO,h x (by simp),if_pos rfl,wj (xs:=xs) (fun y hy=>h y (by simp[hy]))];rfl
theorem uC {mode:Int} {l:List GEv}:∀{xs:List GEx} {x:GEx},x∈xs→(dA mode l x).2=false→gb mode l xs=none
 |[],x,h,_=>by simp at h
 |y::xs,x,h,hx=>by
  rw[lO]
  rcases List.mem_cons.1 h with rfl|h
  ·rw[if_neg (by simp[hx])]
  ·rw[uC h hx];split <;> rfl
theorem DV {l:List GOcc} (h:l.length≤40):iL l=(l,true):=by unfold iL;rw[if_neg (by omega)]
theorem CP {l:List GOcc} (h:40<l.length):iL l=([],false):=by unfold iL;rw[if_pos h]
theorem Dv {mode:Int} {l:List GEv} (h:jr l):∀x:GEx,bx x=true→(xz mode l x→dA mode l x=(bf mode l (eM l) x,true))∧(¬xz mode l x→dA mode l x=([],false)):=by
 refine eC fun x ih hf=>?_
 have hfk:=(bP hf).2
 have sy:∀s,dx (eM l) (bY s 0 l)=bY s 0 l:=fun s=>ET fun o ho=>(y9 h s o ho).2
 have syl:∀s,(bY s 0 l).length≤40:=fun s=>by have:=(jW s l 0).1;have:=h.2.2;omega
 by_cases hk:∀k∈x.Kids,xz mode l k
 rotate_left
 ·-- a part that is too much
  obtain⟨k,hk⟩:=Classical.not_forall.1 hk
  obtain⟨hk1,hk2⟩:=Classical.not_imp.1 hk
  have hx1:x.Kind≠1:=fun e=>by
   rcases dY (bP hf).1 with q|q|q|q|q|q|q
   ·have:x.Kids=[]:=List.length_eq_zero_iff.1 q.2
    rw[this] at hk1;simp at hk1
   all_goals omega
  have bad:dA mode l x=([],false):=by
   rw[lk,if_neg hx1,uC hk1 (by rw[(ih k hk1 (hfk k hk1)).2 hk2])]
  refine⟨fun q=>?_,fun _=>bad⟩
  exact absurd (fun y hy=>q y (Bn x (ES hk1) hy)) hk2
 have hm:∀k∈x.Kids,dA mode l k=(bf mode l (eM l) k,true):=fun k hk'=>(ih k hk' (hfk k hk')).1 (hk k hk')
 have fine:(bf mode l (eM l) x).length≤40→xz mode l x:=fun q y hy=>by
  rcases eX.1 hy with rfl|⟨k,hk1,hy'⟩
  ·exact q
  ·exact hk k hk1 y hy'
 have main:dA mode l x=if(bf mode l (eM l) x).length≤40 then(bf mode l (eM l) x,true) else([],false):=by
  rw[lk,mW]
  by_cases h1:x.Kind=1
  ·rw[if_pos h1,if_pos h1,sy,if_pos (syl _)]
  rw[if_neg h1,if_neg h1,wj hm]
  dsimp only
  have ok:∀j,aP ((x.Kids.map (bf mode l (eM l))).getD j [])=true:=fun j=>by
   rcases nt (bf mode l (eM l)) x.Kids j with⟨y,hy,e⟩|e <;> rw[e]
   ·have:=AF (mode:=mode) h y (hfk y hy)
    rwa [hm y hy] at this
   ·exact mL
  have tm:∀z:List GOcc,iL z=if z.length≤40 then(z,true) else([],false):=fun z=>by
   by_cases q:z.length≤40
   ·rw[DV q,if_pos q]
   ·rw[CP (by omega),if_neg q]
  unfold jx gv
  by_cases h2:x.Kind=2
  ·rw[if_pos h2,if_pos h2,orM,if_pos ⟨ok 0,ok 1⟩,tm]
  rw[if_neg h2,if_neg h2]
  by_cases h3:x.Kind=3
  ·rw[if_pos h3,if_pos h3,fv,if_pos ⟨ok 0,ok 1⟩,tm]
  rw[if_neg h3,if_neg h3]
  by_cases h4:x.Kind=4
  ·rw[if_pos h4,if_pos h4,fv,if_pos ⟨ok 0,ok 1⟩,tm]
  rw[if_neg h4,if_neg h4]
  by_cases h5:x.Kind=5
  ·rw[if_pos h5,if_pos h5,fu,if_pos ⟨ok 0,ok 1,ok 2⟩,tm]
  rw[if_neg h5,if_neg h5]
  by_cases h6:x.Kind=6
  ·rw[if_pos h6,if_pos h6,fu,if_pos ⟨ok 0,ok 1,ok 2⟩,tm]
  rw[if_neg h6,if_neg h6]
  obtain⟨_,_,n1,n2⟩:=Cu hf h1 h2 h3 h4 h5 h6
  rw[pu,if_pos ⟨ok 0,n1,n2⟩,if_pos (Nat.le_trans (po _ _ _) (bp (ok 0)))]
 rw[main]
 by_cases q:(bf mode l (eM l) x).length≤40
 ·rw[if_pos q]
  exact⟨fun _=>rfl,fun n=>absurd (fine q) n⟩
 ·rw[if_neg q]
  exact⟨fun n=>absurd (n x (eX.2 (.inl rfl))) q,fun _=>rfl⟩
theorem kR {p:GOcc→Bool} {l:List GOcc} (h:Asc l):Asc (l.filter p):=List.Pairwise.sublist List.filter_sublist h
theorem ki {s:List GOcc} (h:Asc s) {T t:Int} (hT:T≤t):dx t s=dx T s++s.filter fun o=>decide (T<o.To)&&decide (o.To≤t):=by
 refine j7 (mZ h) (iF (mZ h) (kR h) fun x hx y hy=>?_) fun o=>?_
 ·have:=(iH.1 hx).2
  have:=(List.mem_filter.1 hy).2
  simp only[Bool.and_eq_true,decide_eq_true_eq] at this
  omega
 ·rw[iH,List.mem_append,iH,List.mem_filter]
  simp only[Bool.and_eq_true,decide_eq_true_eq]
  constructor
  ·rintro⟨h1,h2⟩
   by_cases h3:o.To≤T
   ·exact .inl ⟨h1,h3⟩
   ·exact .inr ⟨h1,by omega,h2⟩
  ·rintro(⟨h1,h2⟩|⟨h1,h2,h3⟩)
   ·exact⟨h1,by omega⟩
   ·exact⟨h1,h3⟩
theorem Cb (a F:List GOcc) (t:Int):atM (a++F) t=atM a t++atM F t:=by unfold atM;rw[List.filter_append]
theorem Ah {a:List GOcc} {t:Int} (h:∀o∈a,o.To≠t):atM a t=[]:=List.filter_eq_nil_iff.2 fun o ho=>by simpa using h o ho
theorem FL {a:List GOcc} {t:Int} (h:∀o∈a,o.To=t):atM a t=a:=List.filter_eq_self.2 fun o ho=>by simpa using h o ho
/-- a list that has grown at a time -/
structure gw (T t:Int) (a F:List GOcc):Prop where
 low:∀o∈a,o.To≤T
 at':∀o∈F,o.To=t
theorem gw.at_old {T t:Int} {a F:List GOcc} (h:gw T t a F) (hTt:T<t) {u:Int} (hu:u≤T):atM (a++F) u=atM a u:=by
 rw[Cb,Ah (a:=F) (fun o ho=>by have:=h.at' o ho;omega),List.append_nil]
theorem gw.at_new {T t:Int} {a F:List GOcc} (h:gw T t a F) (hTt:T<t):atM (a++F) t=F:=by
 rw[Cb,Ah (a:=a) (fun o ho=>by have:=h.low o ho;omega),FL h.at',List.nil_append]
theorem qN {T:Int} {ls:List (List GOcc)} (h:∀l∈ls,∀o∈l,o.To≤T):∀u∈bC ls,u≤T:=fun u hu=>by
 obtain⟨_,l,hl,o,ho,rfl⟩:=eG.1 hu
 exact h l hl o ho
theorem tW {T t:Int} (hTt:T<t) (ht:1≤t∧t≤2000) {ls ls':List (List GOcc)} (h1:∀l∈ls,∀o∈l,o.To≤T) (h2:∀u,u≤T→((∃l∈ls',∃o∈l,o.To=u)↔∃l∈ls,∃o∈l,o.To=u)) (h3:∀l∈ls',∀o∈l,o.To≤T∨o.To=t) :
  bC ls'=bC ls++(if(∃l∈ls',∃o∈l,o.To=t) then[t] else[]):=by
 have low:=qN h1
 refine lX (hM _) (List.pairwise_append.2 ⟨hM _,?_,fun x hx y hy=>?_⟩) fun u=>?_
 ·split <;> simp
 ·have:=low x hx
  split at hy
  ·rw[List.mem_singleton.1 hy];omega
  ·simp at hy
 ·rw[List.mem_append,eG,eG]
  constructor
  ·rintro⟨hu,l,hl,o,ho,e⟩
   rcases h3 l hl o ho with q|q
   ·exact .inl ⟨hu,(h2 u (by omega)).1 ⟨l,hl,o,ho,e⟩⟩
   ·refine .inr ?_
    rw[if_pos ⟨l,hl,o,ho,q⟩,List.mem_singleton];omega
  ·rintro(⟨hu,l,hl,o,ho,e⟩|q)
   ·exact⟨hu,(h2 u (by have:=h1 l hl o ho;omega)).2 ⟨l,hl,o,ho,e⟩⟩
   ·split at q
    ·rename_i w
     rw[List.mem_singleton.1 q]
     exact⟨ht,w⟩
    ·simp at q
def stP (f:Two→List GOcc→List GOcc→Two×List GOcc) (a b:List GOcc):Two:=((bC [a,b]).foldl (dk fun p t=>f p (atM a t) (atM b t)) (([],[]),[])).1
def stS (f:Two→List GOcc→List GOcc→List GOcc→Two×List GOcc) (a b c:List GOcc):Two:=((bC [a,b,c]).foldl (dk fun p t=>f p (atM a t) (atM b t) (atM c t)) (([],[]),[])).1
theorem tr {F G:Two→Int→Two×List GOcc}:∀(U:List Int) (s:Two×List GOcc),(∀t∈U,∀p,F p t=G p t)→U.foldl (dk F) s=U.foldl (dk G) s
 |[],s,_=>rfl
 |t::U,s,h=>by
  rw[List.foldl_cons,List.foldl_cons,show dk F s t=dk G s t by unfold dk;rw[h t (by simp) s.1]]
  exact tr U _ fun u hu=>h u (by simp[hu])
theorem nH {T t:Int} {a F:List GOcc} (h:gw T t a F) (hTt:T<t) {u:Int} (hu:u≤T):(∃o∈a++F,o.To=u)↔∃o∈a,o.To=u:=by
 constructor
 ·rintro⟨o,ho,e⟩
  rcases List.mem_append.1 ho with q|q
  ·exact⟨o,q,e⟩
  ·have:=h.at' o q;omega
 ·rintro⟨o,ho,e⟩
  exact⟨o,List.mem_append.2 (.inl ho),e⟩
theorem nn {T t:Int} {a F:List GOcc} (h:gw T t a F):∀o∈a++F,o.To≤T∨o.To=t:=fun o ho=>(List.mem_append.1 ho).elim (fun q=>.inl (h.low o q)) fun q=>.inr (h.at' o q)
theorem mm {T t:Int} {a F:List GOcc} (h:gw T t a F) (hn:¬∃o∈a++F,o.To=t):F=[]:=by
 cases F with
 |nil=>rfl
 |cons o F=>exact absurd ⟨o,by simp,h.at' o (by simp)⟩ hn
theorem wb {f:Two→List GOcc→List GOcc→Two×List GOcc} (hf0:∀p,f p [] []=(p,[])) {T t:Int} (hTt:T<t) (ht:1≤t∧t≤2000) {a b Fa Fb:List GOcc} (ha:gw T t a Fa) (hb:gw T t b Fb) :
  stP f (a++Fa) (b++Fb)=(f (stP f a b) Fa Fb).1∧fG f (a++Fa) (b++Fb)=bd (fG f a b) (f (stP f a b) Fa Fb).2:=by
 have tg:=tW hTt ht (ls:=[a,b]) (ls':=[a++Fa,b++Fb]) (by
  intro l hl;simp only[List.mem_cons,List.not_mem_nil,or_false] at hl
  rcases hl with rfl|rfl
  ·exact ha.low
  ·exact hb.low) (fun u hu=>by
  simp only[List.mem_cons,List.not_mem_nil,or_false,exists_eq_or_imp,exists_eq_left]
  rw[nH ha hTt hu,nH hb hTt hu]) (by
  intro l hl;simp only[List.mem_cons,List.not_mem_nil,or_false] at hl
  rcases hl with rfl|rfl
  ·exact nn ha
  ·exact nn hb)
 have low:=qN (T:=T) (ls:=[a,b]) (by
  intro l hl;simp only[List.mem_cons,List.not_mem_nil,or_false] at hl
  rcases hl with rfl|rfl
  ·exact ha.low
  ·exact hb.low)
 have same:=tr (F:=fun p u=>f p (atM (a++Fa) u) (atM (b++Fb) u)) (G:=fun p u=>f p (atM a u) (atM b u)) (bC [a,b]) (([],[]),[]) (fun u hu p=>by rw[ha.at_old hTt (low u hu),hb.at_old hTt (low u hu)])
 unfold stP fG
 rw[tg,List.foldl_append,same]
 by_cases hh:∃l∈[a++Fa,b++Fb],∃o∈l,o.To=t
 ·rw[if_pos hh]
  simp only[List.foldl_cons,List.foldl_nil,dk]
  rw[ha.at_new hTt,hb.at_new hTt]
  exact⟨rfl,rfl⟩
 ·rw[if_neg hh]
  simp only[List.mem_cons,List.not_mem_nil,or_false,exists_eq_or_imp,exists_eq_left,not_or] at hh
  rw[mm ha hh.1,mm hb hh.2,hf0]
  exact⟨rfl,rfl⟩
theorem wK {f:Two→List GOcc→List GOcc→List GOcc→Two×List GOcc} (hf0:∀p,f p [] [] []=(p,[])) {T t:Int} (hTt:T<t) (ht:1≤t∧t≤2000) {a b c Fa Fb Fc:List GOcc} (ha:gw T t a Fa) (hb:gw T t b Fb) (hc:gw T t c Fc) :
  stS f (a++Fa) (b++Fb) (c++Fc)=(f (stS f a b c) Fa Fb Fc).1∧fH f (a++Fa) (b++Fb) (c++Fc)=bd (fH f a b c) (f (stS f a b c) Fa Fb Fc).2:=by
 have tg:=tW hTt ht (ls:=[a,b,c]) (ls':=[a++Fa,b++Fb,c++Fc]) (by
  intro l hl;simp only[List.mem_cons,List.not_mem_nil,or_false] at hl
  rcases hl with rfl|rfl|rfl
  ·exact ha.low
  ·exact hb.low
  ·exact hc.low) (fun u hu=>by
  simp only[List.mem_cons,List.not_mem_nil,or_false,exists_eq_or_imp,exists_eq_left]
  rw[nH ha hTt hu,nH hb hTt hu,nH hc hTt hu]) (by
  intro l hl;simp only[List.mem_cons,List.not_mem_nil,or_false] at hl
  rcases hl with rfl|rfl|rfl
  ·exact nn ha
  ·exact nn hb
  ·exact nn hc)
 have low:=qN (T:=T) (ls:=[a,b,c]) (by
  intro l hl;simp only[List.mem_cons,List.not_mem_nil,or_false] at hl
  rcases hl with rfl|rfl|rfl
  ·exact ha.low
  ·exact hb.low
  ·exact hc.low)
 have same:=tr (F:=fun p u=>f p (atM (a++Fa) u) (atM (b++Fb) u) (atM (c++Fc) u)) (G:=fun p u=>f p (atM a u) (atM b u) (atM c u)) (bC [a,b,c]) (([],[]),[]) (fun u hu p=>by rw[ha.at_old hTt (low u hu),hb.at_old hTt (low u hu),hc.at_old hTt (low u hu)])
 unfold stS fH
 rw[tg,List.foldl_append,same]
 by_cases hh:∃l∈[a++Fa,b++Fb,c++Fc],∃o∈l,o.To=t
 ·rw[if_pos hh]
  simp only[List.foldl_cons,List.foldl_nil,dk]
  rw[ha.at_new hTt,hb.at_new hTt,hc.at_new hTt]
  exact⟨rfl,rfl⟩
 ·rw[if_neg hh]
  simp only[List.mem_cons,List.not_mem_nil,or_false,exists_eq_or_imp,exists_eq_left,not_or] at hh
  rw[mm ha hh.1,mm hb hh.2.1,mm hc hh.2.2,hf0]
  exact⟨rfl,rfl⟩
theorem By {T t:Int} (hTt:T<t) {a b Fa Fb:List GOcc} (ha:gw T t a Fa) (hb:gw T t b Fb) (aa:Asc a) (fa:Asc Fa):bd (a++Fa) (b++Fb)=bd a b++bd Fa Fb:=by
 have aF:Asc (a++Fa):=iF aa fa fun x hx y hy=>by have:=ha.low x hx;have:=ha.at' y hy;omega
 refine j7 (cL aF) (iF (cL aa) (cL fa) fun x hx y hy=>?_) fun o=>?_
 ·have h1:x.To≤T:=(di.1 hx).elim (ha.low x) (hb.low x)
  have h2:y.To=t:=(di.1 hy).elim (ha.at' y) (hb.at' y)
  omega
 ·rw[di,List.mem_append,List.mem_append,List.mem_append,di,di]
  constructor
  ·rintro((h|h)|(h|h))
   ·exact .inl (.inl h)
   ·exact .inr (.inl h)
   ·exact .inl (.inr h)
   ·exact .inr (.inr h)
  ·rintro((h|h)|(h|h))
   ·exact .inl (.inl h)
   ·exact .inr (.inl h)
   ·exact .inl (.inr h)
   ·exact .inr (.inr h)
def gj (n T:Int) (a:List GOcc):List GOcc:=(a.filter fun o=>decide (T<o.To+n)).map (dz n)
theorem sM {n:Int} {l:List GOcc} (h:Asc l):Asc (l.map (dz n)):=by
 unfold Asc
 rw[List.pairwise_map]
 exact h.imp fun q=>by rw[wu];exact q
theorem qM {n T:Int} {a:List GOcc} {z:GOcc}:z∈dE n T a↔∃o∈a,(o.To+n≤T∧o.To+n≤2000)∧dz n o=z:=by
 unfold dE kq
 rw[List.mem_map]
 simp only[List.mem_filter,Bool.and_eq_true,decide_eq_true_eq]
 constructor
 ·rintro⟨o,⟨h1,h2⟩,h3⟩;exact⟨o,h1,h2,h3⟩
 ·rintro⟨o,h1,h2,h3⟩;exact⟨o,⟨h1,h2⟩,h3⟩
theorem k9 {n T:Int} {a:List GOcc} {z:GOcc}:z∈gj n T a↔∃o∈a,T<o.To+n∧dz n o=z:=by
 unfold gj
 rw[List.mem_map]
 simp only[List.mem_filter,decide_eq_true_eq]
 constructor
 ·rintro⟨o,⟨h1,h2⟩,h3⟩;exact⟨o,h1,h2,h3⟩
 ·rintro⟨o,h1,h2,h3⟩;exact⟨o,⟨h1,h2⟩,h3⟩
theorem pE {n T:Int} {a:List GOcc} (h:Asc a):Asc (gj n T a):=sM (kR h)
theorem Br {n T t:Int} (hn:1≤n) (hTt:T<t) (ht:t≤2000) {a Fa:List GOcc} (ha:gw T t a Fa) (aa:Asc a) (fa:Asc Fa) (hd:∀o∈gj n T a,t≤o.To) :
  dE n t (a++Fa)=dE n T a++(gj n T a).filter fun o=>o.To==t:=by
 have aF:Asc (a++Fa):=iF aa fa fun x hx y hy=>by have:=ha.low x hx;have:=ha.at' y hy;omega
 refine j7 (n6 aF) (iF (n6 aa) (kR (pE aa)) fun x hx y hy=>?_) fun z=>?_
 ·obtain⟨o,_,h1,rfl⟩:=qM.1 hx
  have:=(List.mem_filter.1 hy).2
  simp only[beq_iff_eq] at this
  show o.To+n<y.To
  omega
 ·rw[List.mem_append,qM,qM,List.mem_filter,beq_iff_eq,k9]
  constructor
  ·rintro⟨o,ho,h1,rfl⟩
   rcases List.mem_append.1 ho with q|q
   ·by_cases hT:o.To+n≤T
    ·exact .inl ⟨o,q,⟨hT,by omega⟩,rfl⟩
    ·have h2:=hd _ (k9.2 ⟨o,q,by omega,rfl⟩)
     have h3:t≤o.To+n:=h2
     exact .inr ⟨⟨o,q,by omega,rfl⟩,by show o.To+n=t;omega⟩
   ·have:=ha.at' o q;omega
  ·rintro(⟨o,ho,h1,rfl⟩|⟨⟨o,ho,h1,rfl⟩,h2⟩)
   ·exact⟨o,List.mem_append.2 (.inl ho),by omega,rfl⟩
   ·have h2:o.To+n=t:=h2
    exact⟨o,List.mem_append.2 (.inl ho),by omega,rfl⟩
theorem v6 (n:Int):∀(l D:List GOcc),l.foldl (fun s o=>cq s (dz n o)) D=bd D (l.map (dz n))
 |[],D=>rfl
 |o::l,D=>by rw[List.foldl_cons,v6 n l];rfl
theorem Ee {n T t:Int} (hn:1≤n) (hTt:T<t) {a Fa:List GOcc} (ha:gw T t a Fa) (aa:Asc a) (fa:Asc Fa) (hd:∀o∈gj n T a,t≤o.To) :
  qT t n (gj n T a) Fa=gj n t (a++Fa):=by
 have e1:(gj n T a).filter (fun o=> !(o.To==t))=gj n t a:=by
  refine j7 (kR (pE aa)) (pE aa) fun z=>?_
  rw[List.mem_filter,k9,k9]
  constructor
  ·rintro⟨⟨o,ho,h1,rfl⟩,h2⟩
   have h3:t≤o.To+n:=hd _ (k9.2 ⟨o,ho,h1,rfl⟩)
   have h4:o.To+n≠t:=by simpa [dz] using h2
   exact⟨o,ho,by omega,rfl⟩
  ·rintro⟨o,ho,h1,rfl⟩
   refine⟨⟨o,ho,by omega,rfl⟩,?_⟩
   have:o.To+n≠t:=by omega
   simpa [dz] using this
 have e2:gj n t (a++Fa)=gj n t a++Fa.map (dz n):=by
  unfold gj
  rw[List.filter_append,List.map_append]
  congr 1
  rw[List.filter_eq_self.2]
  intro o ho
  have:=ha.at' o ho
  simp only[decide_eq_true_eq];omega
 unfold qT
 rw[e1,v6,e2]
 refine kL _ _ (iF (pE aa) (sM fa) fun x hx y hy=>?_)
 obtain⟨o,ho,h1,rfl⟩:=k9.1 hx
 obtain⟨p,hp,rfl⟩:=List.mem_map.1 hy
 have:=ha.low o ho
 have:=ha.at' p hp
 show o.To+n<p.To+n
 omega
end Go.Proofs.YtlbnmldopjadoaaGreat
