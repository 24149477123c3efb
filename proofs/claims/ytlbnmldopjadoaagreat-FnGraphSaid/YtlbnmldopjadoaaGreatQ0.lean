/- Plain lemmas about the functions over data; first part. -/
import Derived.Test.YtlbnmldopjadoaaGreatL
namespace Go.Proofs.YtlbnmldopjadoaaGreat
open Go Go.Vm
set_option linter.unusedVariables false
set_option linter.unusedSimpArgs false
theorem wr (x:Int) (h: -9223372036854775808≤x∧x<9223372036854775808):IntKind.wrap .i64 x=x:=EP h
theorem wrS (i:Nat) (h:i<4611686018427387904):IntKind.wrap .i64 ((i:Int)+1)=((i+1:Nat):Int):=by rw[wr _ (by omega)];simp
theorem wrP (i:Nat) (h:i<4611686018427387904):IntKind.wrap .i64 (((i+1:Nat):Int)-1)=(i:Int):=by rw[wr _ (by omega)];simp
/-- from some number of rounds on -/
def Evn {α:Type} (g:Nat→Option α) (r:α):Prop:=∃K,∀k,K≤k→g k=some r
theorem Evn.const {α:Type} {g:Option α} {r:α} (h:g=some r):Evn (fun _=>g) r:=⟨0,fun _ _=>h⟩
theorem Evn.bind {α β:Type} {g:Nat→Option α} {f:Nat→α→Option β} {r:α} {s:β} (h1:Evn g r) (h2:Evn (fun k=>f k r) s):Evn (fun k=>(g k).bind (f k)) s:=by
 obtain⟨K1,h1⟩:=h1
 obtain⟨K2,h2⟩:=h2
 exact⟨K1+K2,fun k hk=>by simp only;rw[h1 k (by omega)];exact h2 k (by omega)⟩
theorem Evn.get {α:Type} {g:Nat→Option α} {r:α} (h:Evn g r):∃k,g k=some r:=h.elim fun K h=>⟨K,h K (Nat.le_refl _)⟩
theorem Evn.req {α:Type} {c:Prop} [Decidable c] {g:Nat→Option α} {r:α} (hc:c) (h:Evn g r):Evn (fun k=>Vm.req c (g k)) r:=by
 obtain⟨K,h⟩:=h
 exact⟨K,fun k hk=>by simp only;rw[ae hc];exact h k hk⟩
theorem Evn.neg {α:Type} {c:Prop} [Decidable c] {g g':Nat→Option α} {r:α} (hc:¬c) (h:Evn g' r):Evn (fun k=>if c then g k else g' k) r:=by
 obtain⟨K,h⟩:=h
 exact⟨K,fun k hk=>by simp only;rw[if_neg hc];exact h k hk⟩
/- events -/
def my (e:GEv):Bool:=decide (0≤e.Sym)&&decide (e.Sym<5)&&decide (1≤e.At)&&decide (e.At≤1000)&&decide (0≤e.Val)&&decide (e.Val≤100)
theorem yk (e:GEv):mn.f e=some (my e):=by
 unfold mn.f my
 repeat' split
 all_goals (rw[Option.some.injEq,Bool.eq_iff_iff];simp;omega)
theorem pF (a b c:Int):eW.f a b c=some (decide (b≤a)&&decide (a≤c)):=by
 unfold eW.f
 split
 all_goals (rw[Option.some.injEq,Bool.eq_iff_iff];simp;omega)
theorem yD (e:GEv):md.f e=some (my e):=by
 unfold md.f jp.f my
 simp only[pF,Option.bind_some]
 repeat' split
 all_goals (rw[Option.some.injEq,Bool.eq_iff_iff];simp_all;try omega)
def jO (l:List GEv) (a:Int):Nat→Bool
 |0=>true
 |j+1=>match l[j]? with
  |some d=>decide (d.At<a)
  |none=>false
def jl (l:List GEv) (i:Nat):Bool:=match l[i]? with
 |some e=>my e&&jO l e.At i
 |none=>false
def gL (l:List GEv):Bool:=(List.range' 0 l.length).all (jl l)&&decide (l.length≤24)
theorem ur (k:Nat) (l:List GEv) (hl:l.length<4611686018427387904):∀(d n i:Nat),i+d=l.length→d<n→
  dG.l0 k l n (i:Int)=some (if(List.range' i d).all (jl l) then .ok () else .error false):=by
 intro d
 induction d with
 |zero=>
  intro n i hi hn
  obtain⟨n,rfl⟩:∃m,n=m+1:=⟨n-1,by omega⟩
  rw[dG.l0,if_neg (by omega)];simp
 |succ d ih=>
  intro n i hi hn
  obtain⟨n,rfl⟩:∃m,n=m+1:=⟨n-1,by omega⟩
  have hlt:i<l.length:=by omega
  have hnext:=ih n (i+1) (by omega) (by omega)
  rw[dG.l0,if_pos (by omega),ae (by omega),Int.toNat_natCast,List.getElem?_eq_getElem hlt]
  simp only[Option.bind_some,yk,List.range'_succ,List.all_cons]
  have hg:jl l i=(my l[i]&&jO l l[i].At i):=by unfold jl;rw[List.getElem?_eq_getElem hlt]
  rw[hg]
  cases hok:my l[i]
  ·simp
  ·cases i with
   |zero=>simp only[if_true];rw[if_neg (by omega),wrS 0 (by omega),hnext];simp only[jO,Bool.true_and]
   |succ j=>
    simp only[if_true]
    rw[if_pos (by omega),ae (by omega)]
    simp only[wrP j (by omega)]
    rw[ae (by omega),Int.toNat_natCast,List.getElem?_eq_getElem (show j<l.length by omega)]
    simp only[Option.bind_some]
    have hp:jO l l[j+1].At (j+1)=decide (l[j].At<l[j+1].At):=by simp only[jO,List.getElem?_eq_getElem (show j<l.length by omega)]
    rw[hp]
    by_cases h:l[j].At<l[j+1].At
    ·rw[if_pos h,wrS (j+1) (by omega),hnext];simp only[h,decide_true,Bool.true_and]
    ·rw[if_neg h];simp only[h,decide_false,Bool.true_and,Bool.false_and];rfl
theorem ue (k:Nat) (l:List GEv) (hl:l.length<4611686018427387904):∀(d n i:Nat),i+d=l.length→d<n→
  dg.l0 k l n (i:Int)=some (if(List.range' i d).all (jl l) then .ok () else .error false):=by
 intro d
 induction d with
 |zero=>
  intro n i hi hn
  obtain⟨n,rfl⟩:∃m,n=m+1:=⟨n-1,by omega⟩
  rw[dg.l0,if_neg (by omega)];simp
 |succ d ih=>
  intro n i hi hn
  obtain⟨n,rfl⟩:∃m,n=m+1:=⟨n-1,by omega⟩
  have hlt:i<l.length:=by omega
  have hnext:=ih n (i+1) (by omega) (by omega)
  rw[dg.l0,if_pos (by omega),ae (by omega),Int.toNat_natCast,List.getElem?_eq_getElem hlt]
  simp only[Option.bind_some,yD,List.range'_succ,List.all_cons]
  have hg:jl l i=(my l[i]&&jO l l[i].At i):=by unfold jl;rw[List.getElem?_eq_getElem hlt]
  rw[hg]
  cases hok:my l[i]
  ·simp
  ·cases i with
   |zero=>simp only[if_true];rw[if_neg (by omega),wrS 0 (by omega),hnext];simp only[jO,Bool.true_and]
   |succ j=>
    simp only[if_true]
    rw[if_pos (by omega)]
    simp only[wrP j (by omega)]
    rw[ae (by omega),Int.toNat_natCast,List.getElem?_eq_getElem (show j<l.length by omega)]
    simp only[Option.bind_some]
    have hp:jO l l[j+1].At (j+1)=decide (l[j].At<l[j+1].At):=by simp only[jO,List.getElem?_eq_getElem (show j<l.length by omega)]
    rw[hp]
    by_cases h:l[j].At<l[j+1].At
    ·rw[if_pos h,wrS (j+1) (by omega),hnext];simp only[h,decide_true,Bool.true_and]
    ·rw[if_neg h];simp only[h,decide_false,Bool.true_and,Bool.false_and];rfl
theorem Ca {l:List GEv} (h:gL l=true):l.length≤24:=by
 unfold gL at h;simp at h;exact h.2
theorem y7 {l:List GEv} (h:gL l=true) {e:GEv} (he:e∈l):my e=true:=by
 unfold gL at h
 simp only[Bool.and_eq_true,List.all_eq_true,List.mem_range',decide_eq_true_eq] at h
 obtain⟨i,hi⟩:=List.mem_iff_getElem?.1 he
 have hlt:i<l.length:=by
  rcases Nat.lt_or_ge i l.length with h1|h1
  ·exact h1
  ·rw[List.getElem?_eq_none h1] at hi;cases hi
 have:=h.1 i ⟨i,hlt,by omega⟩
 unfold jl at this
 rw[hi] at this
 simp only[Bool.and_eq_true] at this
 exact this.1
def cP:List Int→List Int→Int
 |[],[]=>0
 |[],_::_=> -1
 |_::_,[]=>1
 |x::xs,y::ys=>if x<y then -1 else if y<x then 1 else cP xs ys
theorem sL:∀l,cP l l=0
 |[]=>rfl
 |x::xs=>by simp[cP,sL xs]
theorem Bp (k:Nat) (a b:List Int) (ha:a.length<4611686018427387904):∀(d n i:Nat),i+d=a.length→i≤b.length→d<n→
  ((dI.l0 k a b n (i:Int)).bind fun o=>match o with
   | .ok _=>(if(a.length:Int)<(b.length:Int) then some (-1) else(if(b.length:Int)<(a.length:Int) then some 1 else some 0))
   | .error r=>some r)=some (cP (a.drop i) (b.drop i)):=by
 intro d
 induction d with
 |zero=>
  intro n i hi hb hn
  obtain⟨n,rfl⟩:∃m,n=m+1:=⟨n-1,by omega⟩
  rw[dI.l0,if_neg (by omega),List.drop_eq_nil_of_le (by omega)]
  simp only[Option.bind_some]
  cases h:b.drop i with
  |nil=>
   have:b.length≤i:=List.drop_eq_nil_iff.1 h
   rw[if_neg (by omega),if_neg (by omega)];rfl
  |cons y ys=>
   have:i<b.length:=by
    rcases Nat.lt_or_ge i b.length with h1|h1
    ·exact h1
    ·rw[List.drop_eq_nil_of_le h1] at h;cases h
   rw[if_pos (by omega)];rfl
 |succ d ih=>
  intro n i hi hb hn
  obtain⟨n,rfl⟩:∃m,n=m+1:=⟨n-1,by omega⟩
  have hlt:i<a.length:=by omega
  rw[dI.l0,if_pos (by omega),List.drop_eq_getElem_cons hlt]
  by_cases h:i<b.length
  ·rw[if_pos (by omega),ae (by omega),Int.toNat_natCast,List.getElem?_eq_getElem hlt]
   simp only[Option.bind_some]
   rw[ae (by omega),List.getElem?_eq_getElem h,List.drop_eq_getElem_cons h]
   simp only[Option.bind_some,cP]
   by_cases h1:a[i]<b[i]
   ·rw[if_pos h1,if_pos h1];rfl
   ·rw[if_neg h1,if_neg h1,ae (by omega)]
    try simp only[Option.bind_some]
    rw[ae (by omega)]
    try simp only[Option.bind_some]
    by_cases h2:b[i]<a[i]
    ·rw[if_pos h2,if_pos h2];rfl
    ·rw[if_neg h2,if_neg h2,wrS i (by omega)]
     exact ih n (i+1) (by omega) (by omega) (by omega)
  ·rw[if_neg (by omega),List.drop_eq_nil_of_le (show b.length≤i by omega)]
   simp only[Option.bind_some,cP]
   rw[if_neg (by omega),if_pos (by omega)]
theorem xM (a b:List Int) (ha:a.length<4611686018427387904) (k:Nat) (hk:a.length+1≤k):dI.f k a b=some (cP a b):=by
 unfold dI.f
 have:=Bp k a b ha a.length k 0 (by omega) (by omega) (by omega)
 rw[show((0:Nat):Int)=0 from rfl] at this
 exact this
theorem E9 (a b:Int):jE.f a b=some (if a<b then -1 else if b<a then 1 else 0):=by
 unfold jE.f mf.f
 by_cases h:a<b
 ·simp[h]
 ·by_cases h2:b<a <;> simp[h,h2]
theorem wP (k:Nat) (a b:List Int) (ha:a.length<4611686018427387904):∀(d n i:Nat),i+d=a.length→i≤b.length→d<n→
  ((cE.l0 k a b n (i:Int)).bind fun o=>match o with
   | .ok _=>(if(a.length:Int)<(b.length:Int) then some (-1) else some 0)
   | .error r=>some r)=some (cP (a.drop i) (b.drop i)):=by
 intro d
 induction d with
 |zero=>
  intro n i hi hb hn
  obtain⟨n,rfl⟩:∃m,n=m+1:=⟨n-1,by omega⟩
  rw[cE.l0,if_neg (by omega),List.drop_eq_nil_of_le (by omega)]
  simp only[Option.bind_some]
  cases h:b.drop i with
  |nil=>
   have:b.length≤i:=List.drop_eq_nil_iff.1 h
   rw[if_neg (by omega)];rfl
  |cons y ys=>
   have:i<b.length:=by
    rcases Nat.lt_or_ge i b.length with h1|h1
    ·exact h1
    ·rw[List.drop_eq_nil_of_le h1] at h;cases h
   rw[if_pos (by omega)];rfl
 |succ d ih=>
  intro n i hi hb hn
  obtain⟨n,rfl⟩:∃m,n=m+1:=⟨n-1,by omega⟩
  have hlt:i<a.length:=by omega
  rw[cE.l0,if_pos (by omega),List.drop_eq_getElem_cons hlt,ae (by omega),Int.toNat_natCast,List.getElem?_eq_getElem hlt]
  simp only[Option.bind_some]
  by_cases h:i<b.length
  ·rw[if_pos (by omega),ae (by omega),List.getElem?_eq_getElem h,List.drop_eq_getElem_cons h]
   simp only[Option.bind_some,cP,E9]
   by_cases h1:a[i]<b[i]
   ·rw[if_pos h1,if_pos h1,if_neg (by decide)];rfl
   ·rw[if_neg h1,if_neg h1]
    by_cases h2:b[i]<a[i]
    ·rw[if_pos h2,if_pos h2,if_neg (by decide)];rfl
    ·rw[if_neg h2,if_neg h2,if_pos rfl,wrS i (by omega)]
     exact ih n (i+1) (by omega) (by omega) (by omega)
  ·rw[if_neg (by omega),List.drop_eq_nil_of_le (show b.length≤i by omega)]
   simp only[Option.bind_some,cP]
theorem zD (a b:List Int) (ha:a.length<4611686018427387904) (k:Nat) (hk:a.length+1≤k):cE.f k a b=some (cP a b):=by
 unfold cE.f
 have:=wP k a b ha a.length k 0 (by omega) (by omega) (by omega)
 rw[show((0:Nat):Int)=0 from rfl] at this
 exact this
def sgn (b:Bool):Int:=if b then -1 else 1
def bq (a b:GOcc):Int:=if a.To=b.To then(if a.From=b.From then cP a.Ids b.Ids else sgn (decide (a.From<b.From))) else sgn (decide (a.To<b.To))
def bh (a b:GOcc):Bool:=decide (bq a b<0)
theorem iz (a:GOcc):bq a a=0:=by simp[bq,sL]
theorem kt (a b:GOcc) (ha:a.Ids.length<4611686018427387904) (k:Nat) (hk:a.Ids.length+1≤k):cU.f k a b=some (bq a b):=by
 unfold cU.f bq me.f sgn
 rw[zD _ _ ha k hk]
 split
 ·split
  ·rfl
  ·by_cases h:a.From<b.From <;> simp[h]
 ·by_cases h:a.To<b.To <;> simp[h]
theorem tQ (a b:GOcc) (ha:a.Ids.length<4611686018427387904) (k:Nat) (hk:a.Ids.length+1≤k):iU.f k a b=some (bh a b):=by
 unfold iU.f
 rw[kt a b ha k hk];rfl
theorem uW (a b:GOcc) (ha:a.Ids.length<4611686018427387904) (k:Nat) (hk:a.Ids.length+1≤k):gQ.f k a b=some (bh a b):=by
 unfold gQ.f bh bq sgn
 rw[xM _ _ ha k hk]
 split
 ·split
  ·rfl
  ·by_cases h:a.From<b.From <;> simp[h]
 ·by_cases h:a.To<b.To <;> simp[h]
/-- numbers that rise from above p, below 24 -/
def ip:Int→List Int→Bool
 |_,[]=>true
 |p,x::xs=>decide (p<x)&&decide (x≤23)&&ip x xs
theorem wx:∀(l:List Int) (p:Int), -1≤p→p≤23→ip p l=true→(l.length:Int)≤23-p
 |[],p,_,h,_=>by simp;omega
 |x::xs,p,h0,h1,h=>by
  simp only[ip,Bool.and_eq_true,decide_eq_true_eq] at h
  have:=wx xs x (by omega) (by omega) h.2
  simp only[List.length_cons];push_cast;omega
def jw (o:GOcc):Bool:=decide (1≤o.From)&&decide (o.From≤o.To)&&decide (o.To≤2000)&&decide (1≤o.Ids.length)&&ip (-1) o.Ids
theorem uv (k:Nat) (o:GOcc) (hl:o.Ids.length<4611686018427387904):∀(d n i:Nat) (p:Int),i+d=o.Ids.length→d<n→ -1≤p→p≤23→
  dW.l0 k o n p (i:Int)=some (if ip p (o.Ids.drop i) then .ok () else .error false):=by
 intro d
 induction d with
 |zero=>
  intro n i p hi hn _ _
  obtain⟨n,rfl⟩:∃m,n=m+1:=⟨n-1,by omega⟩
  rw[dW.l0,if_neg (by omega),List.drop_eq_nil_of_le (by omega)];rfl
 |succ d ih=>
  intro n i p hi hn h0 h1
  obtain⟨n,rfl⟩:∃m,n=m+1:=⟨n-1,by omega⟩
  have hlt:i<o.Ids.length:=by omega
  rw[dW.l0,if_pos (by omega),ae (by omega),Int.toNat_natCast,List.getElem?_eq_getElem hlt,List.drop_eq_getElem_cons hlt]
  simp only[Option.bind_some,pF]
  rw[wr (p+1) (by omega)]
  by_cases h:p<o.Ids[i]∧o.Ids[i]≤23
  ·have e:(decide (p+1≤o.Ids[i])&&decide (o.Ids[i]≤23))=true:=by simp;omega
   have e2:ip p (o.Ids[i]::o.Ids.drop (i+1))=ip o.Ids[i] (o.Ids.drop (i+1)):=by simp[ip,h.1,h.2]
   rw[if_pos e,wrS i (by omega),ih n (i+1) _ (by omega) (by omega) (by omega) (by omega),e2]
  ·have e:¬(decide (p+1≤o.Ids[i])&&decide (o.Ids[i]≤23))=true:=by simp;omega
   rw[if_neg e]
   have e2:ip p (o.Ids[i]::o.Ids.drop (i+1))=false:=by
    have:(decide (p<o.Ids[i])&&decide (o.Ids[i]≤23))=false:=by
     rw[Bool.eq_false_iff];simpa using h
    show(decide (p<o.Ids[i])&&decide (o.Ids[i]≤23)&&_)=false
    rw[this];rfl
   rw[e2];rfl
theorem xl (o:GOcc) (hl:o.Ids.length<4611686018427387904) (k:Nat) (hk:o.Ids.length+1≤k):dW.f k o=some (jw o):=by
 unfold dW.f jw
 have:=uv k o hl o.Ids.length k 0 (-1) (by omega) (by omega) (by omega) (by omega)
 rw[show((0:Nat):Int)=0 from rfl,List.drop_zero] at this
 rw[this]
 cases ip (-1) o.Ids
 ·simp
 ·simp only[if_true,Option.bind_some,Bool.and_true,pF]
  by_cases h1:o.From<1
  ·rw[if_pos h1];have:¬1≤o.From:=by omega
   simp[this]
  ·rw[if_neg h1]
   have e1:1≤o.From:=by omega
   by_cases h2:o.From≤o.To∧o.To≤2000
   ·simp only[h2.1,h2.2,e1,decide_true,Bool.and_true,if_true,Bool.true_and,Option.some.injEq]
    rw[Bool.eq_iff_iff];simp;omega
   ·have:(decide (o.From≤o.To)&&decide (o.To≤2000))=false:=by rw[Bool.eq_false_iff];simpa using h2
    rw[Bool.and_assoc (decide (1≤o.From)),this]
    simp
def ke (l:List GOcc) (a:GOcc):Nat→Bool
 |0=>true
 |j+1=>match l[j]? with
  |some d=>bh d a
  |none=>false
def lh (l:List GOcc) (i:Nat):Bool:=match l[i]? with
 |some e=>jw e&&ke l e i
 |none=>false
def aP (l:List GOcc):Bool:=(List.range' 0 l.length).all (lh l)&&decide (l.length≤40)
def xD (l:List GOcc) (m:Nat):Prop:=∀o∈l,o.Ids.length≤m
theorem s7 (k:Nat) (l:List GOcc) (hl:l.length<4611686018427387904) (m:Nat) (hm:xD l m) (hm2:m<4611686018427387904) (hk:m+1≤k):∀(d n i:Nat),i+d=l.length→d<n→
  bm.l0 k l n (i:Int)=some (if(List.range' i d).all (lh l) then .ok () else .error false):=by
 intro d
 induction d with
 |zero=>
  intro n i hi hn
  obtain⟨n,rfl⟩:∃m,n=m+1:=⟨n-1,by omega⟩
  rw[bm.l0,if_neg (by omega)];simp
 |succ d ih=>
  intro n i hi hn
  obtain⟨n,rfl⟩:∃m,n=m+1:=⟨n-1,by omega⟩
  have hlt:i<l.length:=by omega
  have hnext:=ih n (i+1) (by omega) (by omega)
  have hb:=hm l[i] (List.getElem_mem hlt)
  rw[bm.l0,if_pos (by omega),ae (by omega),Int.toNat_natCast,List.getElem?_eq_getElem hlt]
  simp only[Option.bind_some,xl l[i] (by omega) k (by omega),List.range'_succ,List.all_cons]
  have hg:lh l i=(jw l[i]&&ke l l[i] i):=by unfold lh;rw[List.getElem?_eq_getElem hlt]
  rw[hg]
  cases hok:jw l[i]
  ·simp
  ·cases i with
   |zero=>simp only[if_true];rw[if_neg (by omega),wrS 0 (by omega),hnext];simp only[ke,Bool.true_and]
   |succ j=>
    simp only[if_true]
    have hb2:=hm l[j] (List.getElem_mem (by omega))
    rw[if_pos (by omega)]
    simp only[wrP j (by omega)]
    rw[ae (by omega),Int.toNat_natCast,List.getElem?_eq_getElem (show j<l.length by omega)]
    simp only[Option.bind_some,tQ l[j] l[j+1] (by omega) k (by omega)]
    have hp:ke l l[j+1] (j+1)=bh l[j] l[j+1]:=by simp only[ke,List.getElem?_eq_getElem (show j<l.length by omega)]
    rw[hp]
    cases bh l[j] l[j+1]
    ·simp
    ·simp only[if_true];rw[wrS (j+1) (by omega),hnext];simp only[Bool.true_and]
theorem vJ (l:List GOcc) (hl:l.length<4611686018427387904) (m:Nat) (hm:xD l m) (hm2:m<4611686018427387904) (k:Nat) (hk:m+l.length+1≤k):bm.f k l=some (aP l):=by
 unfold bm.f aP
 have:=s7 k l hl m hm hm2 (by omega) l.length k 0 (by omega) (by omega)
 rw[show((0:Nat):Int)=0 from rfl] at this
 rw[this]
 cases(List.range' 0 l.length).all (lh l)
 ·simp
 ·simp only[if_true,Option.bind_some,Bool.true_and,Option.some.injEq]
  rw[Bool.eq_iff_iff];simp;omega
theorem bp {l:List GOcc} (h:aP l=true):l.length≤40:=by unfold aP at h;simp at h;exact h.2
theorem qR {l:List GOcc} (h:aP l=true) {i:Nat} (hi:i<l.length):jw l[i]=true∧ke l l[i] i=true:=by
 unfold aP at h
 simp only[Bool.and_eq_true,List.all_eq_true,List.mem_range'] at h
 have:=h.1 i ⟨i,by omega,by omega⟩
 unfold lh at this
 rw[List.getElem?_eq_getElem hi] at this
 simpa using this
theorem BP {o:GOcc} (h:jw o=true):o.Ids.length≤24∧1≤o.From∧o.From≤o.To∧o.To≤2000:=by
 unfold jw at h
 simp only[Bool.and_eq_true,decide_eq_true_eq] at h
 have:=wx o.Ids (-1) (by omega) (by omega) h.2
 omega
theorem mH {l:List GOcc} (h:aP l=true):∀o∈l,o.Ids.length≤24∧1≤o.From∧o.From≤o.To∧o.To≤2000:=fun o ho=>by
 obtain⟨i,hi,rfl⟩:=List.mem_iff_getElem.1 ho
 exact BP (qR h hi).1
theorem ol:∀a b,cP a b=0→a=b
 |[],[],_=>rfl
 |[],_::_,h=>by simp[cP] at h
 |_::_,[],h=>by simp[cP] at h
 |x::xs,y::ys,h=>by
  unfold cP at h
  split at h
  ·cases h
  split at h
  ·cases h
  rw[ol xs ys h,show x=y by omega]
theorem sE:∀a b,cP a b= -cP b a
 |[],[]=>rfl
 |[],_::_=>rfl
 |_::_,[]=>rfl
 |x::xs,y::ys=>by
  unfold cP
  by_cases h1:x<y
  ·rw[if_pos h1,if_neg (by omega),if_pos h1]
  by_cases h2:y<x
  ·rw[if_neg h1,if_pos h2,if_pos h2];rfl
  rw[if_neg h1,if_neg h2,if_neg h2,if_neg h1];exact sE xs ys
theorem rc:∀a b c,cP a b<0→cP b c<0→cP a c<0
 |[],[],_,h,_=>by simp[cP] at h
 |_::_,[],_,h,_=>by simp[cP] at h
 |_,_::_,[],_,h=>by simp[cP] at h
 |[],_::_,_::_,_,_=>by simp[cP]
 |x::xs,y::ys,z::zs,h,k=>by
  unfold cP at h k⊢
  by_cases h1:x<y
  ·by_cases k1:y<z
   ·rw[if_pos (by omega)];omega
   ·rw[if_neg k1] at k
    split at k
    ·omega
    ·rw[if_pos (by omega)];omega
  ·rw[if_neg h1] at h
   split at h
   ·omega
   ·by_cases k1:y<z
    ·rw[if_pos (by omega)];omega
    ·rw[if_neg k1] at k
     split at k
     ·omega
     ·rw[if_neg (by omega),if_neg (by omega)];exact rc xs ys zs h k
theorem jD {a b:GOcc} (h:bq a b=0):a=b:=by
 unfold bq at h
 split at h
 ·split at h
  ·obtain⟨a1,a2,a3⟩:=a;obtain⟨b1,b2,b3⟩:=b
   have:=ol _ _ h
   simp_all
  ·unfold sgn at h;split at h <;> cases h
 ·unfold sgn at h;split at h <;> cases h
theorem oh (a b:GOcc):bq a b= -bq b a:=by
 unfold bq sgn
 by_cases h1:a.To=b.To
 ·rw[if_pos h1,if_pos h1.symm]
  by_cases h2:a.From=b.From
  ·rw[if_pos h2,if_pos h2.symm];exact sE _ _
  ·rw[if_neg h2,if_neg (show ¬b.From=a.From from fun e=>h2 e.symm)]
   by_cases h3:a.From<b.From
   ·have:¬b.From<a.From:=by omega
    simp[h3,this]
   ·have:b.From<a.From:=by omega
    simp[h3,this]
 ·rw[if_neg h1,if_neg (show ¬b.To=a.To from fun e=>h1 e.symm)]
  by_cases h3:a.To<b.To
  ·have:¬b.To<a.To:=by omega
   simp[h3,this]
  ·have:b.To<a.To:=by omega
   simp[h3,this]
theorem wM (a b:GOcc):bq a b<0↔a.To<b.To∨(a.To=b.To∧(a.From<b.From∨(a.From=b.From∧cP a.Ids b.Ids<0))):=by
 unfold bq sgn
 by_cases h1:a.To=b.To
 ·rw[if_pos h1]
  by_cases h2:a.From=b.From
  ·rw[if_pos h2];simp[h1,h2]
  ·rw[if_neg h2]
   by_cases h3:a.From<b.From
   ·simp[h1,h3]
   ·simp[h1,h2,h3]
 ·rw[if_neg h1]
  by_cases h3:a.To<b.To
  ·simp[h3]
  ·simp[h1,h3]
theorem mr {a b c:GOcc} (h:bh a b=true) (k:bh b c=true):bh a c=true:=by
 unfold bh at *
 simp only[decide_eq_true_eq] at *
 rw[wM] at *
 rcases h with h|⟨h1,h⟩
 ·rcases k with k|⟨k1,k⟩
  ·exact .inl (by omega)
  ·exact .inl (by omega)
 ·rcases k with k|⟨k1,k⟩
  ·exact .inl (by omega)
  ·refine .inr ⟨by omega,?_⟩
   rcases h with h|⟨h2,h⟩
   ·rcases k with k|⟨k2,k⟩
    ·exact .inl (by omega)
    ·exact .inl (by omega)
   ·rcases k with k|⟨k2,k⟩
    ·exact .inl (by omega)
    ·exact .inr ⟨by omega,rc _ _ _ h k⟩
theorem lC (a:GOcc):bh a a=false:=by unfold bh;rw[iz];rfl
theorem w5 {a b:GOcc} (h:bh a b=true):bh b a=false:=by
 unfold bh at *
 simp only[decide_eq_true_eq,decide_eq_false_iff_not] at *
 have:=oh a b
 omega
theorem wT {a b:GOcc} (h:bh a b=false) (hne:a≠b):bh b a=true:=by
 unfold bh at *
 simp only[decide_eq_true_eq,decide_eq_false_iff_not] at *
 have:=oh a b
 have:bq a b≠0:=fun e=>hne (jD e)
 omega
/-- an ordered list -/
def Asc (l:List GOcc):Prop:=l.Pairwise fun a b=>bh a b=true
def cq:List GOcc→GOcc→List GOcc
 |[],o=>[o]
 |x::l,o=>if bh x o then x::cq l o else if bq x o=0 then x::l else o::x::l
def bd (l m:List GOcc):List GOcc:=m.foldl cq l
theorem fZ {x o:GOcc}:∀{l:List GOcc},x∈cq l o↔x∈l∨x=o
 |[]=>by simp[cq]
 |y::l=>by
  unfold cq
  split
  ·simp only[List.mem_cons,fZ (l:=l),or_assoc]
  ·split
   ·rename_i h
    have:=jD h
    subst this
    simp only[List.mem_cons]
    constructor
    ·exact fun h=>.inl h
    ·rintro(h|rfl)
     ·exact h
     ·exact .inl rfl
   ·simp only[List.mem_cons]
    constructor
    ·rintro(h|h)
     ·exact .inr h
     ·exact .inl h
    ·rintro(h|h)
     ·exact .inr h
     ·exact .inl h
theorem lD {o:GOcc}:∀{l:List GOcc},Asc l→Asc (cq l o)
 |[],_=>by simp[cq,Asc]
 |y::l,h=>by
  have h':=List.pairwise_cons.1 h
  unfold cq
  split
  ·rename_i h1
   refine List.pairwise_cons.2 ⟨fun z hz=>?_,lD h'.2⟩
   rcases fZ.1 hz with h2|rfl
   ·exact h'.1 z h2
   ·exact h1
  ·split
   ·exact h
   ·rename_i h1 h2
    have h3:bh o y=true:=wT (by simpa using h1) (fun e=>h2 (by rw[e];exact iz _))
    refine List.pairwise_cons.2 ⟨fun z hz=>?_,h⟩
    rcases List.mem_cons.1 hz with rfl|h4
    ·exact h3
    ·exact mr h3 (h'.1 z h4)
theorem fL (o:GOcc):∀l:List GOcc,(cq l o).length≤l.length+1
 |[]=>by simp[cq]
 |y::l=>by
  have:=fL o l
  unfold cq
  split
  ·simp;omega
  ·split <;> simp
theorem ox (l:List GOcc) (x:GOcc) (m:List GOcc):bd l (x::m)=bd (cq l x) m:=rfl
theorem cL:∀{m l:List GOcc},Asc l→Asc (bd l m)
 |[],_,h=>h
 |x::m,l,h=>by rw[ox];exact cL (lD h)
theorem cJ:∀(m l:List GOcc),(bd l m).length≤l.length+m.length
 |[],_=>by simp[bd]
 |x::m,l=>by rw[ox];have:=cJ m (cq l x);have:=fL x l;simp;omega
theorem di {x:GOcc}:∀{m l:List GOcc},x∈bd l m↔x∈l∨x∈m
 |[],l=>by simp[bd]
 |y::m,l=>by rw[ox,di,fZ,List.mem_cons,or_assoc]
/-- where one stands or would stand -/
def bX (l:List GOcc) (o:GOcc):Nat:=(l.takeWhile fun x=>bh x o).length
theorem o7 (l:List GOcc) (o:GOcc):bX l o≤l.length:=by unfold bX;exact(List.takeWhile_prefix _).length_le
theorem j8 (o:GOcc):∀l:List GOcc,cq l o=if ∃x,l[bX l o]? =some x∧bq x o=0 then l else l.take (bX l o)++[o]++l.drop (bX l o)
 |[]=>by simp[cq,bX]
 |y::l=>by
  unfold cq
  by_cases h:bh y o=true
  ·have e:bX (y::l) o=bX l o+1:=by unfold bX;rw[List.takeWhile_cons,if_pos h];rfl
   rw[if_pos h,e,j8 o l]
   simp only[List.getElem?_cons_succ,List.take_succ_cons,List.drop_succ_cons]
   split <;> rfl
  ·have e:bX (y::l) o=0:=by unfold bX;rw[List.takeWhile_cons,if_neg h];rfl
   rw[if_neg h,e]
   simp only[List.getElem?_cons_zero,List.take_zero,List.drop_zero,Option.some.injEq,exists_eq_left']
   rfl
theorem n7 {o:GOcc}:∀{l:List GOcc} {i:Nat},i<bX l o→∃x,l[i]? =some x∧bh x o=true
 |[],i,h=>by simp[bX] at h
 |y::l,i,h=>by
  by_cases hy:bh y o=true
  ·have e:bX (y::l) o=bX l o+1:=by unfold bX;rw[List.takeWhile_cons,if_pos hy];rfl
   cases i with
   |zero=>exact⟨y,rfl,hy⟩
   |succ i=>rw[e] at h;exact n7 (l:=l) (i:=i) (by omega)
  ·have e:bX (y::l) o=0:=by unfold bX;rw[List.takeWhile_cons,if_neg hy];rfl
   rw[e] at h;omega
theorem tj {l:List GOcc} {o:GOcc} (h:bX l o<l.length):bh l[bX l o] o=false:=by
 induction l with
 |nil=>simp at h
 |cons y l ih=>
  by_cases hy:bh y o=true
  ·have e:bX (y::l) o=bX l o+1:=by unfold bX;rw[List.takeWhile_cons,if_pos hy];rfl
   have:=ih (by rw[e] at h;simpa using h)
   simp only[e,List.getElem_cons_succ]
   exact this
  ·have e:bX (y::l) o=0:=by unfold bX;rw[List.takeWhile_cons,if_neg hy];rfl
   simp only[e,List.getElem_cons_zero]
   simpa using hy
theorem FD {l:List GOcc} {o:GOcc} (hs:Asc l) {i:Nat} (h1:bX l o≤i) (h2:i<l.length):bh l[i] o=false:=by
 have h3:=tj (l:=l) (o:=o) (by omega)
 rcases Nat.lt_or_ge (bX l o) i with h4|h4
 ·have h5:bh l[bX l o] l[i]=true:=List.pairwise_iff_getElem.1 hs _ _ _ _ h4
  cases h6:bh l[i] o
  ·rfl
  ·rw[mr h5 h6] at h3;cases h3
 ·have:i=bX l o:=by omega
  subst this;exact h3
/-- a loop over a list -/
theorem CC {α σ:Type} (l:List α) (body:σ→α→Option σ) (L:Nat→σ→Int→Option σ) (g:σ→α→σ) (Inv:Nat→σ→Prop)
  (hend:∀n s,L (n+1) s (l.length:Int)=some s)
  (hstep:∀n s (i:Nat) (h:i<l.length),L (n+1) s (i:Int)=(body s l[i]).bind fun s'=>L n s' ((i+1:Nat):Int))
  (hbody:∀i s (h:i<l.length),Inv i s→body s l[i]=some (g s l[i])∧Inv (i+1) (g s l[i])) :
  ∀(d i n:Nat) (s:σ),i+d=l.length→d<n→Inv i s→L n s (i:Int)=some ((l.drop i).foldl g s)∧Inv l.length ((l.drop i).foldl g s):=by
 intro d
 induction d with
 |zero=>
  intro i n s hi hn hI
  obtain⟨n,rfl⟩:∃m,n=m+1:=⟨n-1,by omega⟩
  have e:i=l.length:=by omega
  subst e
  rw[hend,List.drop_length]
  exact⟨rfl,hI⟩
 |succ d ih=>
  intro i n s hi hn hI
  obtain⟨n,rfl⟩:∃m,n=m+1:=⟨n-1,by omega⟩
  have hlt:i<l.length:=by omega
  obtain⟨h1,h2⟩:=hbody i s hlt hI
  rw[hstep n s i hlt,h1,List.drop_eq_getElem_cons hlt]
  exact ih (i+1) n _ (by omega) (by omega) h2
theorem cf {α σ:Type} (l:List α) (body:σ→α→Option σ) (L:Nat→σ→Int→Option σ) (g:σ→α→σ) (Inv:Nat→σ→Prop)
  (hend:∀n s,L (n+1) s (l.length:Int)=some s)
  (hstep:∀n s (i:Nat) (h:i<l.length),L (n+1) s (i:Int)=(body s l[i]).bind fun s'=>L n s' ((i+1:Nat):Int))
  (hbody:∀i s (h:i<l.length),Inv i s→body s l[i]=some (g s l[i])∧Inv (i+1) (g s l[i])) (n:Nat) (s:σ) (hn:l.length<n) (hI:Inv 0 s) :
  L n s 0=some (l.foldl g s)∧Inv l.length (l.foldl g s):=by
 have:=CC l body L g Inv hend hstep hbody l.length 0 n s (by omega) hn hI
 simpa using this
/-- the numbers of one are few -/
abbrev Few (o:GOcc):Prop:=o.Ids.length≤1000
abbrev ez (l:List GOcc):Prop:=∀o∈l,Few o
theorem Eo (a b:GOcc) (ha:Few a) (k:Nat) (hk:1000000000000≤k):cU.f k a b=some (bq a b):=kt a b (by omega) k (by omega)
theorem Co (a b:GOcc) (ha:Few a) (k:Nat) (hk:1000000000000≤k):gQ.f k a b=some (bh a b):=uW a b (by omega) k (by omega)
theorem zl (a b:GOcc) (ha:Few a) (k:Nat) (hk:1000000000000≤k):gE.f k a b=some (decide (bq a b=0)):=by
 unfold gE.f bq sgn
 rw[xM _ _ (by omega) k (by omega)]
 by_cases h1:a.From=b.From
 ·rw[if_pos h1]
  by_cases h2:a.To=b.To
  ·rw[if_pos h2,if_pos h2,if_pos h1]
   by_cases h3:(a.Ids.length:Int)=b.Ids.length
   ·rw[if_pos h3];simp only[Option.bind_some]
    rw[Option.some.injEq,Bool.eq_iff_iff];simp
   ·rw[if_neg h3]
    have:cP a.Ids b.Ids≠0:=fun e=>h3 (by rw[ol _ _ e])
    simp[this]
  ·rw[if_neg h2,if_neg h2];split <;> simp
 ·rw[if_neg h1]
  by_cases h2:a.To=b.To
  ·rw[if_pos h2,if_neg h1];split <;> simp
  ·rw[if_neg h2];split <;> simp
theorem Fl (a b:Nat) (h:a+b<1000000000000000):IntKind.wrap .i64 (dh .shr .u64 (IntKind.wrap .u64 (IntKind.wrap .i64 ((a:Int)+(b:Int)))) 1)=(((a+b) / 2:Nat):Int):=by
 rw[show IntKind.wrap .i64 ((a:Int)+(b:Int))=(a:Int)+(b:Int) from wr _ (by omega)]
 have e:IntKind.wrap .u64 ((a:Int)+(b:Int))=(a:Int)+(b:Int):=by
  show((a:Int)+(b:Int)) % 18446744073709551616=_
  exact Int.emod_eq_of_lt (by omega) (by omega)
 rw[e]
 have e2:dh .shr .u64 ((a:Int)+(b:Int)) 1=((a:Int)+(b:Int)).fdiv 2:=rfl
 rw[e2,Int.fdiv_eq_ediv_of_nonneg _ (by omega),wr _ (by omega)]
 omega
theorem EL (k:Nat) (hk:1000000000000≤k) (l:List GOcc) (o:GOcc) (hl:l.length≤1000000000000) (hf:ez l) (hs:Asc l):∀(d a b n:Nat),b-a≤d→a≤bX l o→bX l o≤b→b≤l.length→d<n→
  aM.l0 k (fun y0 y1=>cU.f k y0 y1) l o n (a:Int) (b:Int)=some ((bX l o:Nat):Int):=by
 intro d
 induction d with
 |zero=>
  intro a b n h1 h2 h3 h4 hn
  obtain⟨n,rfl⟩:∃m,n=m+1:=⟨n-1,by omega⟩
  rw[aM.l0,if_neg (by omega),show a=bX l o by omega]
 |succ d ih=>
  intro a b n h1 h2 h3 h4 hn
  obtain⟨n,rfl⟩:∃m,n=m+1:=⟨n-1,by omega⟩
  by_cases h:a<b
  ·have hm:(a+b) / 2<l.length:=by omega
   rw[aM.l0,if_pos (by omega),Fl a b (by omega),ae (by omega),ae (by omega),Int.toNat_natCast,List.getElem?_eq_getElem hm]
   simp only[Option.bind_some,Eo _ o (hf _ (List.getElem_mem hm)) k hk]
   by_cases hc:bq l[(a+b) / 2] o<0
   ·rw[if_pos hc,wrS _ (by omega)]
    refine ih _ b n (by omega) ?_ h3 h4 (by omega)
    rcases Nat.lt_or_ge ((a+b) / 2) (bX l o) with h5|h5
    ·omega
    ·have:=FD hs h5 hm
     unfold bh at this
     simp at this
     omega
   ·rw[if_neg hc]
    refine ih a _ n (by omega) h2 ?_ (by omega) (by omega)
    rcases Nat.lt_or_ge ((a+b) / 2) (bX l o) with h5|h5
    ·obtain⟨x,e1,e2⟩:=n7 h5
     rw[List.getElem?_eq_getElem hm,Option.some.injEq] at e1
     subst e1
     unfold bh at e2
     simp at e2
     omega
    ·exact h5
  ·rw[aM.l0,if_neg (by omega),show a=bX l o by omega]
theorem AT (k:Nat) (hk:1000000000000≤k) (l:List GOcc) (o:GOcc) (hl:l.length≤100000000000) (hf:ez l) (hs:Asc l) :
  aM.f (fun y0 y1=>cU.f k y0 y1) k l o=some (((bX l o:Nat):Int),decide (∃x,l[bX l o]? =some x∧bq x o=0)):=by
 unfold aM.f
 have hr:=o7 l o
 have:=EL k hk l o (by omega) hf hs l.length 0 l.length k (by omega) (by omega) hr (Nat.le_refl _) (by omega)
 rw[show((0:Nat):Int)=0 from rfl] at this
 rw[this]
 simp only[Option.bind_some]
 by_cases h:bX l o<l.length
 ·rw[if_pos (by omega),ae (by omega),Int.toNat_natCast,List.getElem?_eq_getElem h]
  simp only[Option.bind_some,Eo _ o (hf _ (List.getElem_mem h)) k hk,Option.some.injEq,Prod.mk.injEq,true_and]
  rw[Bool.eq_iff_iff]
  simp
 ·rw[if_neg (by omega),List.getElem?_eq_none (by omega)]
  simp
theorem jJ (k:Nat) (hk:1000000000000≤k) (l:List GOcc) (o:GOcc) (hl:l.length≤100000000000) (hf:ez l) (hs:Asc l):eB.f k l o=some (cq l o):=by
 unfold eB.f
 rw[AT k hk l o hl hf hs]
 simp only[Option.bind_some]
 have hr:=o7 l o
 by_cases h:∃x,l[bX l o]? =some x∧bq x o=0
 ·rw[if_pos (by simpa using h),j8,if_pos h]
 ·rw[if_neg (by simpa using h),j8,if_neg h]
  unfold kS.f iy.f
  rw[ae (by omega)]
  simp only[Option.bind_some]
  rw[ae (by omega),ae (by omega),ae (show[o].length=1 from rfl),ae (by omega)]
  rfl
theorem xo (k:Nat) (hk:1000000000000≤k) (l:List GOcc) (o:GOcc) (hl:l.length≤100000000000) (hf:ez l):∀(d i n:Nat),i+d=bX l o→d<n→
  cg.l0 k l o n (i:Int)=some ((bX l o:Nat):Int):=by
 have hr:=o7 l o
 intro d
 induction d with
 |zero=>
  intro i n h1 hn
  obtain⟨n,rfl⟩:∃m,n=m+1:=⟨n-1,by omega⟩
  have e:i=bX l o:=by omega
  subst e
  by_cases h:bX l o<l.length
  ·have h2:=tj h
   rw[cg.l0,if_pos (by omega),ae (by omega),ae (by omega),Int.toNat_natCast,List.getElem?_eq_getElem h]
   simp only[Option.bind_some,Co _ o (hf _ (List.getElem_mem h)) k hk,h2,Bool.false_eq_true,if_false]
  ·rw[cg.l0,if_neg (by omega)]
 |succ d ih=>
  intro i n h1 hn
  obtain⟨n,rfl⟩:∃m,n=m+1:=⟨n-1,by omega⟩
  have h:i<l.length:=by omega
  obtain⟨x,e1,e2⟩:=n7 (l:=l) (o:=o) (i:=i) (by omega)
  rw[List.getElem?_eq_getElem h,Option.some.injEq] at e1
  subst e1
  rw[cg.l0,if_pos (by omega),ae (by omega),ae (by omega),Int.toNat_natCast,List.getElem?_eq_getElem h]
  simp only[Option.bind_some,Co _ o (hf _ (List.getElem_mem h)) k hk,e2,if_true]
  rw[wrS i (by omega)]
  exact ih (i+1) n (by omega) (by omega)
theorem qx (o:GOcc) (h:Few o):eZ.f o=some o:=by
 unfold eZ.f;rw[ae (by omega)];rfl
theorem rY (o:GOcc) (h:Few o):eT.f o=some o:=by
 unfold eT.f;exact ae (by omega)
theorem lK (k:Nat) (hk:1000000000000≤k) (l:List GOcc) (o:GOcc) (hl:l.length≤100000000000) (hf:ez l) (ho:Few o):cg.f k l o=some (cq l o):=by
 unfold cg.f
 have hr:=o7 l o
 have:=xo k hk l o hl hf (bX l o) 0 k (by omega) (by omega)
 rw[show((0:Nat):Int)=0 from rfl] at this
 rw[this]
 simp only[Option.bind_some]
 by_cases h:bX l o<l.length
 ·rw[if_pos (by omega),ae (by omega),ae (by omega),Int.toNat_natCast,List.getElem?_eq_getElem h]
  simp only[Option.bind_some,zl _ o (hf _ (List.getElem_mem h)) k hk]
  by_cases h2:bq l[bX l o] o=0
  ·rw[if_pos (by simpa using h2),j8,if_pos ⟨_,List.getElem?_eq_getElem h,h2⟩]
  ·rw[if_neg (by simpa using h2),j8,if_neg (fun⟨x,e1,e2⟩=>h2 (by rw[List.getElem?_eq_getElem h,Option.some.injEq] at e1;rw[e1];exact e2))]
   repeat rw[ae (by omega)]
   rw[qx o ho]
   simp only[Option.bind_some]
   repeat rw[ae (by omega)]
   try rw[Int.toNat_natCast]
   rw[show(([]:List GOcc)++(l.drop (bX l o)).take ((l.length:Int)-((bX l o:Nat):Int)).toNat)=l.drop (bX l o) from List.take_of_length_le (by rw[List.length_drop];omega)]
 ·rw[if_neg (by omega),j8,if_neg (fun⟨x,e1,e2⟩=>by rw[List.getElem?_eq_none (by omega)] at e1;cases e1)]
  repeat rw[ae (by omega)]
  rw[qx o ho]
  simp only[Option.bind_some]
  repeat rw[ae (by omega)]
  try rw[Int.toNat_natCast]
  rw[show(([]:List GOcc)++(l.drop (bX l o)).take ((l.length:Int)-((bX l o:Nat):Int)).toNat)=l.drop (bX l o) from List.take_of_length_le (by rw[List.length_drop];omega)]
theorem wn {l:List GOcc} {o:GOcc} (h:ez l) (ho:Few o):ez (cq l o):=fun x hx=>by
 rcases fZ.1 hx with h1|rfl
 ·exact h x h1
 ·exact ho
theorem sJ {l m:List GOcc} (h:ez l) (hm:ez m):ez (bd l m):=fun x hx=>by
 rcases di.1 hx with h1|h1
 ·exact h x h1
 ·exact hm x h1
theorem bV (k:Nat) (hk:1000000000000≤k) (l m:List GOcc) (hl:l.length+m.length≤90000000000) (hf:ez l) (hm:ez m) (hs:Asc l):aO.f k l m=some (bd l m):=by
 unfold aO.f
 have:=cf m (fun s e=>eB.f k s e) (aO.l0 k m) cq (fun i s=>s.length≤l.length+i∧ez s∧Asc s)
  (fun n s=>by rw[aO.l0,if_neg (by omega)])
  (fun n s i h=>by rw[aO.l0,if_pos (by omega),ae (by omega),Int.toNat_natCast,List.getElem?_eq_getElem h];simp only[Option.bind_some];rw[wrS i (by omega)])
  (fun i s h hI=>⟨jJ k hk s _ (by omega) hI.2.1 hI.2.2,by have:=fL m[i] s;omega,wn hI.2.1 (hm _ (List.getElem_mem h)),lD hI.2.2⟩)
  k l (by omega) ⟨by omega,hf,hs⟩
 rw[this.1];rfl
theorem dV (k:Nat) (hk:1000000000000≤k) (l m:List GOcc) (hl:l.length+m.length≤90000000000) (hf:ez l) (hm:ez m):aU.f k l m=some (bd l m):=by
 unfold aU.f
 have:=cf m (fun s e=>cg.f k s e) (aU.l0 k m) cq (fun i s=>s.length≤l.length+i∧ez s)
  (fun n s=>by rw[aU.l0,if_neg (by omega)])
  (fun n s i h=>by rw[aU.l0,if_pos (by omega),ae (by omega),Int.toNat_natCast,List.getElem?_eq_getElem h];simp only[Option.bind_some];rw[wrS i (by omega)])
  (fun i s h hI=>⟨lK k hk s _ (by omega) hI.2 (hm _ (List.getElem_mem h)),by have:=fL m[i] s;omega,wn hI.2 (hm _ (List.getElem_mem h))⟩)
  k l (by omega) ⟨by omega,hf⟩
 rw[this.1];rfl
theorem wz {α:Type} (l acc:List α):l.foldl (fun s e=>s++[e]) acc=acc++l:=by
 induction l generalizing acc with
 |nil=>simp
 |cons x l ih=>rw[List.foldl_cons,ih];simp
theorem sq (k:Nat) (hk:1000000000000≤k) (l:List GOcc) (hl:l.length≤90000000000) (hf:ez l):cu.f k l=some l:=by
 unfold cu.f
 have:=cf l (fun s e=>(eT.f e).bind fun x28=>(req ((s.length+1) * 40≤140737488355328) (some (s++[x28])))) (cu.l0 k l) (fun s e=>s++[e]) (fun i s=>s.length=i)
  (fun n s=>by rw[cu.l0,if_neg (by omega)])
  (fun n s i h=>by
   rw[cu.l0,if_pos (by omega),ae (by omega),Int.toNat_natCast,List.getElem?_eq_getElem h];simp only[Option.bind_some];rw[wrS i (by omega),rY _ (hf _ (List.getElem_mem h))];simp only[Option.bind_some]
   unfold req;split <;> rfl)
  (fun i s h hI=>⟨by rw[rY _ (hf _ (List.getElem_mem h))];simp only[Option.bind_some];rw[ae (by omega)],by simp[hI]⟩)
  k [] (by omega) rfl
 rw[this.1,wz];rfl
theorem qf (k:Nat) (hk:1000000000000≤k) (l:List GOcc) (hl:l.length≤90000000000) (hf:ez l):cV.f k l=some l:=by
 unfold cV.f
 have:=cf l (fun s e=>(eZ.f e).bind fun x28=>(req ((s.length+1) * 40≤140737488355328) (some (s++[x28])))) (cV.l0 k l) (fun s e=>s++[e]) (fun i s=>s.length=i)
  (fun n s=>by rw[cV.l0,if_neg (by omega)])
  (fun n s i h=>by
   rw[cV.l0,if_pos (by omega),ae (by omega),Int.toNat_natCast,List.getElem?_eq_getElem h];simp only[Option.bind_some];rw[wrS i (by omega),qx _ (hf _ (List.getElem_mem h))];simp only[Option.bind_some]
   unfold req;split <;> rfl)
  (fun i s h hI=>⟨by rw[qx _ (hf _ (List.getElem_mem h))];simp only[Option.bind_some];rw[ae (by omega)],by simp[hI]⟩)
  k [] (by omega) rfl
 rw[this.1,wz];rfl
def iL (l:List GOcc):List GOcc×Bool:=if 40<l.length then([],false) else(l,true)
theorem Bx (k:Nat) (hk:1000000000000≤k) (l:List GOcc) (hl:l.length≤90000000000) (hf:ez l):j4.f k l=some (iL l):=by
 unfold j4.f iL
 by_cases h:40<l.length
 ·rw[if_pos (by omega),if_pos h]
 ·rw[if_neg (by omega),if_neg h,sq k hk l hl hf];rfl
theorem qy {l:List GOcc} (h:aP l=true):Asc l:=by
 have step:∀i (hi:i+1<l.length),bh l[i] l[i+1]=true:=fun i hi=>by
  have:=(qR h hi).2
  simpa only[ke,List.getElem?_eq_getElem (show i<l.length by omega)] using this
 have far:∀d i (hi:i+d+1<l.length),bh l[i] l[i+d+1]=true:=fun d=>by
  induction d with
  |zero=>intro i hi;exact step i hi
  |succ d ih=>intro i hi;exact mr (ih i (by omega)) (step (i+d+1) hi)
 refine List.pairwise_iff_getElem.2 fun i j hi hj hij=>?_
 have:=far (j-i-1) i (by omega)
 have e:i+(j-i-1)+1=j:=by omega
 simp only[e] at this
 exact this
theorem pA {l:List GOcc} (h:aP l=true):ez l:=fun o ho=>by have:=mH h o ho;omega
def orM (a b:List GOcc):List GOcc×Bool:=if aP a=true∧aP b=true then iL (bd a b) else([],false)
/-- what stands in both programs for a list that was handed on -/
def dC (l:List GOcc):Prop:=l.length≤40000000000∧ez l
theorem fJ (k:Nat) (hk:1000000000000≤k) (l:List GOcc) (h:dC l):bm.f k l=some (aP l):=vJ l (by have:=h.1;omega) 1000 h.2 (by omega) k (by have:=h.1;omega)
theorem xX (k:Nat) (hk:1000000000000≤k) (a b:List GOcc) (ha:dC a) (hb:dC b):lW.f k a b=some (orM a b):=by
 unfold lW.f orM
 rw[fJ k hk a ha]
 simp only[Option.bind_some]
 by_cases h1:aP a=true
 ·rw[if_pos h1,fJ k hk b hb]
  simp only[Option.bind_some]
  by_cases h2:aP b=true
  ·have l1:=bp h1
   have l2:=bp h2
   have l3:=cJ b a
   rw[if_pos h2,if_pos ⟨h1,h2⟩,bV k hk a b (by omega) ha.2 hb.2 (qy h1)]
   simp only[Option.bind_some]
   rw[Bx k hk _ (by omega) (sJ ha.2 hb.2)];rfl
  ·rw[if_neg h2,if_neg (fun x=>h2 x.2)]
 ·rw[if_neg h1,if_neg (fun x=>h1 x.1)]
/-- numbers that rise -/
abbrev Up (l:List Int):Prop:=l.Pairwise fun a b=>a<b
theorem lX:∀{a b:List Int},Up a→Up b→(∀x,x∈a↔x∈b)→a=b
 |[],[],_,_,_=>rfl
 |[],y::b,_,_,h=>by have:=(h y).2 (by simp);simp at this
 |x::a,[],_,_,h=>by have:=(h x).1 (by simp);simp at this
 |x::a,y::b,ha,hb,h=>by
  obtain⟨a1,a2⟩:=List.pairwise_cons.1 ha
  obtain⟨b1,b2⟩:=List.pairwise_cons.1 hb
  have e:x=y:=by
   have h1:=(h x).1 (by simp)
   have h2:=(h y).2 (by simp)
   rcases List.mem_cons.1 h1 with h1|h1
   ·exact h1
   ·rcases List.mem_cons.1 h2 with h2|h2
    ·exact h2.symm
    ·have:=b1 x h1;have:=a1 y h2;omega
  subst e
  rw[lX a2 b2 fun z=>?_]
  have hz:=h z
  simp only[List.mem_cons] at hz
  constructor
  ·intro h1
   rcases hz.1 (.inr h1) with h2|h2
   ·have:=a1 z h1;omega
   ·exact h2
  ·intro h1
   rcases hz.2 (.inr h1) with h2|h2
   ·have:=b1 z h1;omega
   ·exact h2
def dN:List Int→List Int→List Int
 |[],b=>b
 |x::a,[]=>x::a
 |x::a,y::b=>if x<y then x::dN a (y::b) else if x=y then y::dN a b else y::dN (x::a) b
termination_by a b=>a.length+b.length
theorem eD {z:Int}:∀{a b:List Int},z∈dN a b↔z∈a∨z∈b
 |[],b=>by simp[dN]
 |x::a,[]=>by simp[dN]
 |x::a,y::b=>by
  unfold dN
  split
  ·simp only[List.mem_cons,eD (a:=a) (b:=y::b),or_assoc]
  ·split
   ·rename_i h
    subst h
    simp only[List.mem_cons,eD (a:=a) (b:=b)]
    constructor
    ·rintro(h|h|h)
     ·exact .inl (.inl h)
     ·exact .inl (.inr h)
     ·exact .inr (.inr h)
    ·rintro((h|h)|(h|h))
     ·exact .inl h
     ·exact .inr (.inl h)
     ·exact .inl h
     ·exact .inr (.inr h)
   ·simp only[List.mem_cons,eD (a:=x::a) (b:=b)]
    constructor
    ·rintro(h|h|h)
     ·exact .inr (.inl h)
     ·exact .inl h
     ·exact .inr (.inr h)
    ·rintro(h|h|h)
     ·exact .inr (.inl h)
     ·exact .inl h
     ·exact .inr (.inr h)
termination_by a b=>a.length+b.length
theorem jm:∀{a b:List Int},Up a→Up b→Up (dN a b)
 |[],b,_,h=>by simpa [dN] using h
 |x::a,[],h,_=>by simpa [dN] using h
 |x::a,y::b,ha,hb=>by
  obtain⟨a1,a2⟩:=List.pairwise_cons.1 ha
  obtain⟨b1,b2⟩:=List.pairwise_cons.1 hb
  unfold dN
  split
  ·refine List.pairwise_cons.2 ⟨fun z hz=>?_,jm a2 hb⟩
   rcases eD.1 hz with h|h
   ·exact a1 z h
   ·rcases List.mem_cons.1 h with rfl|h
    ·assumption
    ·have:=b1 z h;omega
  ·split
   ·rename_i h1 h2
    refine List.pairwise_cons.2 ⟨fun z hz=>?_,jm a2 b2⟩
    rcases eD.1 hz with h|h
    ·have:=a1 z h;omega
    ·exact b1 z h
   ·refine List.pairwise_cons.2 ⟨fun z hz=>?_,jm ha b2⟩
    rcases eD.1 hz with h|h
    ·rcases List.mem_cons.1 h with rfl|h
     ·omega
     ·have:=a1 z h;omega
    ·exact b1 z h
termination_by a b=>a.length+b.length
theorem BI {a b:List Int} (ha:Up a) (hb:Up b):dN a b=dN b a:=lX (jm ha hb) (jm hb ha) fun x=>by rw[eD,eD,or_comm]
theorem m8 {z:Int}:∀{l:List Int},z∈uniq l↔z∈l
 |[]=>by simp[uniq]
 |[x]=>by simp[uniq]
 |x::y::l=>by
  have ih:=m8 (z:=z) (l:=y::l)
  unfold uniq
  split
  ·rename_i h
   subst h
   rw[ih];simp
  ·rw[List.mem_cons,ih,List.mem_cons (a:=z) (b:=x)]
theorem oQ:∀{l:List Int},l.Pairwise (fun a b=>a≤b)→Up (uniq l)
 |[],_=>by simp[uniq]
 |[x],_=>by simp[uniq]
 |x::y::l,h=>by
  obtain⟨h1,h2⟩:=List.pairwise_cons.1 h
  unfold uniq
  split
  ·exact oQ h2
  ·rename_i hne
   refine List.pairwise_cons.2 ⟨fun z hz=>?_,oQ h2⟩
   have hz':=m8.1 hz
   have a1:=h1 y (by simp)
   rcases List.mem_cons.1 hz' with rfl|h3
   ·omega
   ·have:=(List.pairwise_cons.1 h2).1 z h3;omega
def mR (l:List Int):List Int:=l.mergeSort fun x y=>decide (x≤y)
theorem tH (l:List Int):(mR l).Pairwise fun a b=>a≤b:=by
 have:=List.pairwise_mergeSort (le:=fun x y:Int=>decide (x≤y)) (fun a b c h1 h2=>by simp at *;omega) (fun a b=>by simp;omega) l
 exact this.imp fun h=>by simpa using h
theorem rb {z:Int} {l:List Int}:z∈mR l↔z∈l:=(List.mergeSort_perm l _).mem_iff
theorem nK (l:List Int):(mR l).length=l.length:=List.length_mergeSort l
theorem tT {a b:List Int} (ha:Up a) (hb:Up b):uniq (mR (a++b))=dN a b:=lX (oQ (tH _)) (jm ha hb) fun x=>by rw[m8,rb,eD,List.mem_append]
/-- the numbers of an occurrence: rising, below 24 -/
def cy (l:List Int):Prop:=Up l∧∀x∈l,0≤x∧x≤23
theorem wc:∀{l:List Int} {p:Int},ip p l=true→Up l∧∀x∈l,p<x∧x≤23
 |[],_,_=>by simp
 |x::l,p,h=>by
  unfold ip at h
  simp only[Bool.and_eq_true,decide_eq_true_eq] at h
  obtain⟨a,b⟩:=wc (l:=l) (p:=x) h.2
  refine⟨List.pairwise_cons.2 ⟨fun y hy=>(b y hy).1,a⟩,fun y hy=>?_⟩
  rcases List.mem_cons.1 hy with rfl|hy
  ·omega
  ·have:=b y hy;omega
theorem ya {l:List Int} (h:ip (-1) l=true):cy l:=by
 obtain⟨a,b⟩:=wc h
 exact⟨a,fun x hx=>by have:=b x hx;omega⟩
theorem CZ:∀{l:List Int} {p:Int},Up l→(∀x∈l,p≤x∧x≤23)→p≤24→(l.length:Int)≤24-p
 |[],p,_,_,h=>by simp;omega
 |x::l,p,h,k,_=>by
  obtain⟨h1,h2⟩:=List.pairwise_cons.1 h
  have hx:=k x (by simp)
  have:=CZ (l:=l) (p:=x+1) h2 (fun y hy=>by have:=h1 y hy;have:=k y (by simp[hy]);omega) (by omega)
  simp;omega
theorem fg {l:List Int} (h:cy l):l.length≤24:=by have:=CZ (p:=0) h.1 h.2 (by omega);omega
theorem n9 {a b:List Int} (ha:cy a) (hb:cy b):cy (dN a b):=⟨jm ha.1 hb.1,fun x hx=>by
 rcases eD.1 hx with h|h
 ·exact ha.2 x h
 ·exact hb.2 x h⟩
def cz (a b:GOcc):GOcc:=⟨min a.From b.From,max a.To b.To,dN a.Ids b.Ids⟩
theorem Bt {a b:GOcc} (ha:cy a.Ids) (hb:cy b.Ids):cz a b=cz b a:=by unfold cz;rw[BI ha.1 hb.1,Int.min_comm,Int.max_comm]
theorem A5 (k:Nat) (a b:List Int) (ha:a.length≤1000) (hb:b.length≤1000):∀(d i j n:Nat) (acc:List Int),i+j+d=a.length+b.length→i≤a.length→j≤b.length→d<n→acc.length≤i+j→
  bZ.l0 k a b n acc (i:Int) (j:Int)=some (acc++dN (a.drop i) (b.drop j)):=by
 intro d
 induction d using Nat.strongRecOn with
 |_ d ih=>
 intro i j n acc h1 h2 h3 hn hacc
 obtain⟨n,rfl⟩:∃m,n=m+1:=⟨n-1,by omega⟩
 by_cases hi:i<a.length
 ·by_cases hj:j<b.length
  ·rw[bZ.l0,if_pos (by omega),if_pos (by omega),ae (by omega),Int.toNat_natCast,List.getElem?_eq_getElem hi]
   simp only[Option.bind_some]
   rw[ae (by omega),Int.toNat_natCast,List.getElem?_eq_getElem hj]
   simp only[Option.bind_some]
   rw[List.drop_eq_getElem_cons hi,List.drop_eq_getElem_cons hj]
   unfold dN
   by_cases c1:a[i]<b[j]
   ·rw[if_pos c1,if_pos c1,ae (by omega),ae (by omega),wrS i (by omega),ih (d-1) (by omega) (i+1) j n _ (by omega) (by omega) h3 (by omega) (by simp;omega),List.append_assoc,←List.drop_eq_getElem_cons hj]
    rfl
   ·rw[if_neg c1,if_neg c1,ae (by omega),ae (by omega)]
    by_cases c2:a[i]=b[j]
    ·rw[if_pos c2,if_pos c2,ae (by omega),ae (by omega),wrS i (by omega),wrS j (by omega),ih (d-2) (by omega) (i+1) (j+1) n _ (by omega) (by omega) (by omega) (by omega) (by simp;omega),List.append_assoc]
     rfl
    ·rw[if_neg c2,if_neg c2,ae (by omega),ae (by omega),wrS j (by omega),ih (d-1) (by omega) i (j+1) n _ (by omega) h2 (by omega) (by omega) (by simp;omega),List.append_assoc,←List.drop_eq_getElem_cons hi]
     rfl
  ·rw[bZ.l0,if_pos (by omega),if_neg (by omega),ae (by omega),Int.toNat_natCast,List.getElem?_eq_getElem hi]
   simp only[Option.bind_some]
   rw[ae (by omega),wrS i (by omega),ih (d-1) (by omega) (i+1) j n _ (by omega) (by omega) h3 (by omega) (by simp;omega),List.drop_eq_nil_of_le (show b.length≤j by omega),List.drop_eq_getElem_cons hi,List.append_assoc]
   have e:∀l:List Int,dN l []=l:=fun l=>by cases l <;> simp[dN]
   rw[e,e];rfl
 ·by_cases hj:j<b.length
  ·rw[bZ.l0,if_neg (by omega),if_pos (by omega),ae (by omega),Int.toNat_natCast,List.getElem?_eq_getElem hj]
   simp only[Option.bind_some]
   rw[ae (by omega),wrS j (by omega),ih (d-1) (by omega) i (j+1) n _ (by omega) h2 (by omega) (by omega) (by simp;omega),List.drop_eq_nil_of_le (show a.length≤i by omega),List.drop_eq_getElem_cons hj,List.append_assoc]
   simp[dN]
  ·rw[bZ.l0,if_neg (by omega),if_neg (by omega),List.drop_eq_nil_of_le (show a.length≤i by omega),List.drop_eq_nil_of_le (show b.length≤j by omega)]
   simp[dN]
theorem qK (k:Nat) (hk:1000000000000≤k) (a b:GOcc) (ha:Few a) (hb:Few b):fI.f k a b=some (cz a b):=by
 unfold fI.f bZ.f io.f mI.f cz
 have:=A5 k a.Ids b.Ids ha hb (a.Ids.length+b.Ids.length) 0 0 k [] (by omega) (by omega) (by omega) (by omega) (by simp)
 rw[show((0:Nat):Int)=0 from rfl] at this
 rw[this]
 have e1:(if a.From<b.From then some a.From else some b.From)=some (min a.From b.From):=by split <;> (congr 1;omega)
 have e2:(if b.To<a.To then some a.To else some b.To)=some (max a.To b.To):=by split <;> (congr 1;omega)
 rw[e1,e2]
 rfl
theorem Cc (k:Nat) (hk:1000000000000≤k) (a b:List Int) (ha:a.length≤1000) (hb:b.length≤1000):ba.f k [a,b]=some (a++b):=by
 obtain⟨k',rfl⟩:∃m,k=m+3:=⟨k-3,by omega⟩
 unfold ba.f jM.f
 have e0:ba.l0 (k'+3) [a,b] (k'+3) 0 0=some ((a.length:Int)+b.length):=by
  rw[ba.l0,if_pos (by simp),ae (by omega)]
  simp only[Int.toNat_zero,List.getElem?_cons_zero,Option.bind_some]
  rw[wr (0+(a.length:Int)) (by omega),if_neg (by omega),show IntKind.wrap .i64 (0+1)=1 from rfl,ba.l0,if_pos (by simp),ae (by omega)]
  simp only[Int.toNat_one,List.getElem?_cons_succ,List.getElem?_cons_zero,Option.bind_some]
  rw[wr _ (by omega),if_neg (by omega),show IntKind.wrap .i64 (1+1)=2 from rfl,ba.l0,if_neg (by simp)]
  congr 1;omega
 have e1:ba.l1 (k'+3) [a,b] (k'+3) [] 0=some (a++b):=by
  rw[ba.l1,if_pos (by simp),ae (by omega)]
  simp only[Int.toNat_zero,List.getElem?_cons_zero,Option.bind_some]
  rw[ae (by simp;omega),show IntKind.wrap .i64 (0+1)=1 from rfl,ba.l1,if_pos (by simp),ae (by omega)]
  simp only[Int.toNat_one,List.getElem?_cons_succ,List.getElem?_cons_zero,Option.bind_some]
  rw[ae (by simp;omega),show IntKind.wrap .i64 (1+1)=2 from rfl,ba.l1,if_neg (by simp)]
  rfl
 rw[e0]
 simp only[Option.bind_some]
 rw[ae trivial,ae (by omega),ae (by omega)]
 simp only[Option.bind_some]
 rw[e1];rfl
theorem kT (k:Nat) (hk:1000000000000≤k) (a b:GOcc) (ha:cy a.Ids) (hb:cy b.Ids):fS.f k a b=some (cz a b):=by
 have l1:=fg ha
 have l2:=fg hb
 unfold fS.f gG.f dn.f
 rw[Cc k hk _ _ (by omega) (by omega)]
 simp only[Option.bind_some]
 have e:(a.Ids++b.Ids).mergeSort (fun x y=>decide (x≤y))=mR (a.Ids++b.Ids):=rfl
 rw[ae (by simp;omega),e]
 simp only[Option.bind_some]
 have l3:=nK (a.Ids++b.Ids)
 rw[ae l3,ae (by rw[l3];simp;omega)]
 have l4:(uniq (mR (a.Ids++b.Ids))).length≤24:=by rw[tT ha.1 hb.1];exact fg (n9 ha hb)
 simp only[Option.bind_some]
 rw[ae (by omega),ae (by omega),ae (by omega),ae (by omega),tT ha.1 hb.1]
 unfold cz
 by_cases c1:b.From<a.From
 ·rw[if_pos c1]
  by_cases c2:a.To<b.To
  ·rw[if_pos c2];congr 2 <;> omega
  ·rw[if_neg c2];congr 2 <;> omega
 ·rw[if_neg c1]
  by_cases c2:a.To<b.To
  ·rw[if_pos c2];congr 2 <;> omega
  ·rw[if_neg c2];congr 2 <;> omega
/-- a loop over a list, its state iL in another way -/
theorem Dd {α σ τ:Type} (ret:σ→τ) (l:List α) (body:σ→α→Option σ) (L:Nat→σ→Int→Option τ) (g:σ→α→σ) (Inv:Nat→σ→Prop)
  (hend:∀n s,L (n+1) s (l.length:Int)=some (ret s))
  (hstep:∀n s (i:Nat) (h:i<l.length),L (n+1) s (i:Int)=(body s l[i]).bind fun s'=>L n s' ((i+1:Nat):Int))
  (hbody:∀i s (h:i<l.length),Inv i s→body s l[i]=some (g s l[i])∧Inv (i+1) (g s l[i])) :
  ∀(d i n:Nat) (s:σ),i+d=l.length→d<n→Inv i s→L n s (i:Int)=some (ret ((l.drop i).foldl g s))∧Inv l.length ((l.drop i).foldl g s):=by
 intro d
 induction d with
 |zero=>
  intro i n s hi hn hI
  obtain⟨n,rfl⟩:∃m,n=m+1:=⟨n-1,by omega⟩
  have e:i=l.length:=by omega
  subst e
  rw[hend,List.drop_length]
  exact⟨rfl,hI⟩
 |succ d ih=>
  intro i n s hi hn hI
  obtain⟨n,rfl⟩:∃m,n=m+1:=⟨n-1,by omega⟩
  have hlt:i<l.length:=by omega
  obtain⟨h1,h2⟩:=hbody i s hlt hI
  rw[hstep n s i hlt,h1,List.drop_eq_getElem_cons hlt]
  exact ih (i+1) n _ (by omega) (by omega) h2
theorem dM {α σ τ:Type} (ret:σ→τ) (l:List α) (body:σ→α→Option σ) (L:Nat→σ→Int→Option τ) (g:σ→α→σ) (Inv:Nat→σ→Prop)
  (hend:∀n s,L (n+1) s (l.length:Int)=some (ret s))
  (hstep:∀n s (i:Nat) (h:i<l.length),L (n+1) s (i:Int)=(body s l[i]).bind fun s'=>L n s' ((i+1:Nat):Int))
  (hbody:∀i s (h:i<l.length),Inv i s→body s l[i]=some (g s l[i])∧Inv (i+1) (g s l[i])) (n:Nat) (s:σ) (hn:l.length<n) (hI:Inv 0 s) :
  L n s 0=some (ret (l.foldl g s))∧Inv l.length (l.foldl g s):=by
 have:=Dd ret l body L g Inv hend hstep hbody l.length 0 n s (by omega) hn hI
 simpa using this
/-- those of a list that hold, kept in order -/
theorem fe {α:Type} (p:α→Bool):∀(l acc:List α),l.foldl (fun s e=>if p e=true then s++[e] else s) acc=acc++l.filter p
 |[],acc=>by simp
 |x::l,acc=>by
  rw[List.foldl_cons,fe p l]
  by_cases h:p x=true
  ·rw[if_pos h,List.filter_cons_of_pos h];simp
  ·rw[if_neg h,List.filter_cons_of_neg h]
/-- all numbers of a list of occurrences are right -/
def Ids (l:List GOcc):Prop:=∀o∈l,cy o.Ids
theorem Ids.few {l:List GOcc} (h:Ids l):ez l:=fun o ho=>by have:=fg (h o ho);omega
theorem rU {l:List GOcc} {o:GOcc} (h:Ids l) (ho:cy o.Ids):Ids (cq l o):=fun x hx=>by
 rcases fZ.1 hx with h1|rfl
 ·exact h x h1
 ·exact ho
theorem ib {l m:List GOcc} (h:Ids l) (hm:Ids m):Ids (bd l m):=fun x hx=>by
 rcases di.1 hx with h1|h1
 ·exact h x h1
 ·exact hm x h1
theorem iY {a b:GOcc} (ha:cy a.Ids) (hb:cy b.Ids):cy (cz a b).Ids:=n9 ha hb
theorem fN {l:List GOcc} (h:aP l=true):Ids l:=fun o ho=>by
 obtain⟨i,hi,rfl⟩:=List.mem_iff_getElem.1 ho
 have:=(qR h hi).1
 unfold jw at this
 simp only[Bool.and_eq_true,decide_eq_true_eq] at this
 exact ya this.2
/-- what is found of one and of those that wait -/
def nv (o:GOcc) (l:List GOcc):GOcc:=l.foldl cz o
def uD (o:GOcc) (l:List GOcc):List GOcc:=l.foldl (fun s e=>cq s (cz o e)) []
def d9 (mode:Int) (o:GOcc) (l:List GOcc):List GOcc:=
 if l.length=0 then[] else if mode=1 then[cz o (l[l.length-1]?.getD o)] else if mode=2 then[cz o (l[0]?.getD o)] else if mode=4 then[nv o l] else uD o l
def nR (mode:Int) (l:List GOcc):List GOcc:=if mode=1 then[] else if mode=2 then l.take 1 else if mode=4 then l else if mode=3 then l else[]
theorem AH:∀{l:List GOcc} {o:GOcc},Ids l→cy o.Ids→cy (nv o l).Ids
 |[],_,_,h=>h
 |x::l,o,hl,h=>AH (l:=l) (o:=cz o x) (fun y hy=>hl y (by simp[hy])) (iY h (hl x (by simp)))
theorem uj (o:GOcc) (ho:cy o.Ids):∀(l acc:List GOcc),Ids l→Ids acc→Asc acc→Ids (l.foldl (fun s e=>cq s (cz o e)) acc)∧Asc (l.foldl (fun s e=>cq s (cz o e)) acc)∧(l.foldl (fun s e=>cq s (cz o e)) acc).length≤acc.length+l.length
 |[],acc,_,h,h2=>⟨h,h2,by simp⟩
 |x::l,acc,hl,h,h2=>by
  obtain⟨a,b,c⟩:=uj o ho l (cq acc (cz o x)) (fun y hy=>hl y (by simp[hy])) (rU h (iY ho (hl x (by simp)))) (lD h2)
  have:=fL (cz o x) acc
  exact⟨a,b,by simp only[List.foldl_cons,List.length_cons];omega⟩
theorem Ac (k:Nat) (hk:1000000000000≤k) (o:GOcc) (l:List GOcc) (hl:l.length≤40000000000) (hi:Ids l) (ho:cy o.Ids) :
  aK.l0 k l k o.From o.To o.Ids 0=some ((nv o l).From,(nv o l).To,(nv o l).Ids):=by
 have:=dM (fun s:GOcc=>(s.From,s.To,s.Ids)) l (fun s e=>fS.f k s e) (fun n s i=>aK.l0 k l n s.From s.To s.Ids i) cz (fun i s=>cy s.Ids)
  (fun n s=>by rw[aK.l0,if_neg (by omega)])
  (fun n s i h=>by
   rw[aK.l0,if_pos (by omega),ae (by omega),Int.toNat_natCast,List.getElem?_eq_getElem h]
   simp only[Option.bind_some]
   rw[wrS i (by omega)])
  (fun i s h hI=>⟨kT k hk s _ hI (hi _ (List.getElem_mem h)),iY hI (hi _ (List.getElem_mem h))⟩) k o (by omega) ho
 exact this.1
theorem yO (k:Nat) (hk:1000000000000≤k) (o:GOcc) (l:List GOcc) (hl:l.length≤40000000000) (hi:Ids l) (ho:cy o.Ids):aK.l1 k o l k [] 0=some (uD o l):=by
 have:=cf l (fun s e=>(fS.f k o e).bind fun x=>eB.f k s x) (aK.l1 k o l) (fun s e=>cq s (cz o e)) (fun i s=>s.length≤i∧Ids s∧Asc s)
  (fun n s=>by rw[aK.l1,if_neg (by omega)])
  (fun n s i h=>by
   rw[aK.l1,if_pos (by omega),ae (by omega),Int.toNat_natCast,List.getElem?_eq_getElem h]
   simp only[Option.bind_some]
   rw[wrS i (by omega),Option.bind_assoc])
  (fun i s h hI=>by
   have hx:=hi _ (List.getElem_mem h)
   refine⟨by rw[kT k hk o _ ho hx];exact jJ k hk s _ (by omega) hI.2.1.few hI.2.2,?_,rU hI.2.1 (iY ho hx),lD hI.2.2⟩
   have:=fL (cz o l[i]) s;omega)
  k [] (by omega) ⟨by simp,fun x hx=>by simp at hx,by simp[Asc]⟩
 exact this.1
theorem mM (k:Nat) (hk:1000000000000≤k) (mode:Int) (o:GOcc) (l:List GOcc) (hl:l.length≤40000000000) (hi:Ids l) (ho:cy o.Ids) :
  aK.f k mode o l=some (d9 mode o l,if l.length=0 then[] else nR mode l):=by
 unfold aK.f d9 nR
 by_cases h0:l.length=0
 ·rw[if_pos (by omega),if_pos h0,if_pos h0]
 rw[if_neg (by omega),if_neg h0,if_neg h0]
 by_cases h1:mode=1
 ·obtain⟨j,hj⟩:∃j,l.length=j+1:=⟨l.length-1,by omega⟩
  have hlt:j<l.length:=by omega
  have e:IntKind.wrap .i64 ((l.length:Int)-1)=(j:Int):=by rw[hj];exact wrP j (by omega)
  rw[if_pos h1,if_pos h1,if_pos h1,e,ae (by omega),Int.toNat_natCast,List.getElem?_eq_getElem hlt]
  simp only[Option.bind_some]
  rw[kT k hk o _ ho (hi _ (List.getElem_mem hlt)),show l.length-1=j by omega,List.getElem?_eq_getElem hlt]
  rfl
 rw[if_neg h1,if_neg h1,if_neg h1]
 by_cases h2:mode=2
 ·have hlt:0<l.length:=by omega
  rw[if_pos h2,if_pos h2,if_pos h2,ae (by omega),List.getElem?_eq_getElem hlt]
  simp only[Option.bind_some]
  rw[kT k hk o _ ho (hi _ (List.getElem_mem hlt))]
  simp only[Option.bind_some]
  rw[ae (by omega),ae (by omega),ae (by omega)]
  rfl
 rw[if_neg h2,if_neg h2,if_neg h2]
 by_cases h4:mode=4
 ·rw[if_pos h4,if_pos h4,if_pos h4,Ac k hk o l hl hi ho]
  rfl
 rw[if_neg h4,if_neg h4,if_neg h4,yO k hk o l hl hi ho]
 simp only[Option.bind_some]
 by_cases h3:mode=3
 ·rw[if_pos h3,if_pos h3]
 ·rw[if_neg h3,if_neg h3]
/-- a list without some -/
def nq (l gone:List GOcc):List GOcc:=l.filter fun x=> !(gone.any fun g=>decide (bq g x=0))
theorem wo {l:List GOcc} {o:GOcc} (hs:Asc l):(∃x,l[bX l o]? =some x∧bq x o=0)↔(l.any fun g=>decide (bq g o=0))=true:=by
 rw[List.any_eq_true]
 constructor
 ·rintro⟨x,h1,h2⟩
  exact⟨x,List.mem_of_getElem? h1,by simpa using h2⟩
 ·rintro⟨x,h1,h2⟩
  have h2:bq x o=0:=by simpa using h2
  have e:=jD h2
  subst e
  obtain⟨i,hi,rfl⟩:=List.mem_iff_getElem.1 h1
  refine⟨l[i],?_,iz _⟩
  have hr:=o7 l l[i]
  rcases Nat.lt_trichotomy i (bX l l[i]) with h|h|h
  ·obtain⟨y,e1,e2⟩:=n7 h
   rw[List.getElem?_eq_getElem hi,Option.some.injEq] at e1
   subst e1
   rw[lC] at e2;cases e2
  ·rw[←h];exact List.getElem?_eq_getElem hi
  ·have h3:=tj (l:=l) (o:=l[i]) (by omega)
   have h4:bh l[bX l l[i]] l[i]=true:=List.pairwise_iff_getElem.1 hs _ _ _ _ h
   rw[h4] at h3;cases h3
theorem pR (k:Nat) (hk:1000000000000≤k) (l gone:List GOcc) (hl:l.length≤40000000000) (hg:gone.length≤40000000000) (hf:ez gone) (hs:Asc gone):bj.f k l gone=some (nq l gone):=by
 unfold bj.f
 have:=cf l (fun s e=>(aM.f (fun y0 y1=>cU.f k y0 y1) k gone e).bind fun x=>if x.2=true then some s else(req ((s.length+1) * 40≤140737488355328) (some (s++[e])))) (bj.l0 k l gone)
  (fun s e=>if(!(gone.any fun g=>decide (bq g e=0)))=true then s++[e] else s) (fun i s=>s.length≤i)
  (fun n s=>by rw[bj.l0,if_neg (by omega)])
  (fun n s i h=>by
   rw[bj.l0,if_pos (by omega),ae (by omega),Int.toNat_natCast,List.getElem?_eq_getElem h]
   simp only[Option.bind_some]
   rw[wrS i (by omega),AT k hk gone _ (by omega) hf hs]
   simp only[Option.bind_some]
   split
   ·rfl
   ·unfold req;split <;> rfl)
  (fun i s h hI=>by
   rw[AT k hk gone _ (by omega) hf hs]
   simp only[Option.bind_some]
   by_cases c:∃x,gone[bX gone l[i]]? =some x∧bq x l[i]=0
   ·have c2:=(wo hs).1 c
    rw[if_pos (by simpa using c),c2]
    exact⟨rfl,by simp;omega⟩
   ·have c2:(gone.any fun g=>decide (bq g l[i]=0))=false:=by
     cases h':(gone.any fun g=>decide (bq g l[i]=0))
     ·rfl
     ·exact absurd ((wo hs).2 h') c
    rw[if_neg (by simpa using c),c2,ae (by omega)]
    exact⟨rfl,by simp;omega⟩)
  k [] (by omega) (by simp)
 rw[this.1,fe];rfl
theorem m7 (k:Nat) (hk:1000000000000≤k) (g1:GOcc→Option Bool) (p:GOcc→Bool) (l:List GOcc) (hl:l.length≤40000000000) (hp:∀x∈l,g1 x=some (p x)):aW.f g1 k l=some (l.filter p):=by
 unfold aW.f
 have:=cf l (fun s e=>(g1 e).bind fun x=>if x=true then(req ((s.length+1) * 40≤140737488355328) (some (s++[e]))) else some s) (aW.l0 k g1 l)
  (fun s e=>if p e=true then s++[e] else s) (fun i s=>s.length≤i)
  (fun n s=>by rw[aW.l0,if_neg (by omega)])
  (fun n s i h=>by
   rw[aW.l0,if_pos (by omega),ae (by omega),Int.toNat_natCast,List.getElem?_eq_getElem h]
   simp only[Option.bind_some]
   rw[wrS i (by omega),hp _ (List.getElem_mem h)]
   simp only[Option.bind_some]
   split
   ·unfold req;split <;> rfl
   ·rfl)
  (fun i s h hI=>by
   rw[hp _ (List.getElem_mem h)]
   simp only[Option.bind_some]
   by_cases c:p l[i]=true
   ·rw[if_pos c,if_pos c,ae (by omega)]
    exact⟨rfl,by simp;omega⟩
   ·rw[if_neg c,if_neg c]
    exact⟨rfl,by omega⟩)
  k [] (by omega) (by simp)
 rw[this.1,fe];rfl
theorem ER (k:Nat) (hk:1000000000000≤k) (l:List GOcc) (p:GOcc→Bool) (hl:l.length≤40000000000):aJ.l0 k l (l.map p) k [] 0=some (l.filter p):=by
 have:=cf l (fun s e=>if p e=true then(req ((s.length+1) * 40≤140737488355328) (some (s++[e]))) else some s) (aJ.l0 k l (l.map p)) (fun s e=>if p e=true then s++[e] else s) (fun i s=>s.length≤i)
  (fun n s=>by rw[aJ.l0,if_neg (by omega)])
  (fun n s i h=>by
   rw[aJ.l0,if_pos (by omega),ae (by omega),Int.toNat_natCast,List.getElem?_map,List.getElem?_eq_getElem h]
   simp only[Option.map_some,Option.bind_some]
   rw[wrS i (by omega)]
   split
   ·rw[ae (by omega),ae (by omega)];unfold req;split <;> rfl
   ·rfl)
  (fun i s h hI=>by
   by_cases c:p l[i]=true
   ·rw[if_pos c,if_pos c,ae (by omega)];exact⟨rfl,by simp;omega⟩
   ·rw[if_neg c,if_neg c];exact⟨rfl,by omega⟩)
  k [] (by omega) (by simp)
 rw[this.1,fe];rfl
theorem Er (k:Nat) (hk:1000000000000≤k) (l:List GOcc) (p:GOcc→Bool) (hl:l.length≤40000000000):aJ.l2 k l (l.map p) k [] 0=some (l.filter fun e=> !p e):=by
 have:=cf l (fun s e=>if p e=true then some s else(req ((s.length+1) * 40≤140737488355328) (some (s++[e])))) (aJ.l2 k l (l.map p)) (fun s e=>if(!p e)=true then s++[e] else s) (fun i s=>s.length≤i)
  (fun n s=>by rw[aJ.l2,if_neg (by omega)])
  (fun n s i h=>by
   rw[aJ.l2,if_pos (by omega),ae (by omega),Int.toNat_natCast,List.getElem?_map,List.getElem?_eq_getElem h]
   simp only[Option.map_some,Option.bind_some]
   rw[wrS i (by omega)]
   split
   ·rfl
   ·rw[ae (by omega),ae (by omega)];unfold req;split <;> rfl)
  (fun i s h hI=>by
   by_cases c:p l[i]=true
   ·rw[if_pos c,if_neg (by simp[c])];exact⟨rfl,by omega⟩
   ·rw[if_neg c,if_pos (by simp[c]),ae (by omega)];exact⟨rfl,by simp;omega⟩)
  k [] (by omega) (by simp)
 rw[this.1,fe];rfl
theorem EO (k:Nat) (hk:1000000000000≤k) (l:List GOcc) (p:GOcc→Bool) (hl:l.length≤40000000000) (hf:ez l) (x:GOcc) (t:List GOcc):aJ.l1 k l (l.map p) (x::t) k [] 0=some (l.filter fun e=> !(p e&&decide (bq e x=0))):=by
 have:=cf l (fun s e=>if p e=true then(if bq e x=0 then some s else(req ((s.length+1) * 40≤140737488355328) (some (s++[e])))) else(req ((s.length+1) * 40≤140737488355328) (some (s++[e])))) (aJ.l1 k l (l.map p) (x::t)) (fun s e=>if(!(p e&&decide (bq e x=0)))=true then s++[e] else s) (fun i s=>s.length≤i)
  (fun n s=>by rw[aJ.l1,if_neg (by omega)])
  (fun n s i h=>by
   rw[aJ.l1,if_pos (by omega),ae (by omega),Int.toNat_natCast,List.getElem?_map,List.getElem?_eq_getElem h]
   simp only[Option.map_some,Option.bind_some]
   rw[wrS i (by omega)]
   split
   ·rw[ae (by omega),ae (by omega),ae (by omega),ae (by omega)]
    simp only[List.getElem?_cons_zero,Option.bind_some,zl _ x (hf _ (List.getElem_mem h)) k hk]
    by_cases c:bq l[i] x=0
    ·rw[if_pos (by simpa using c),if_pos c];rfl
    ·rw[if_neg (by simpa using c),if_neg c,ae (by omega),ae (by omega)];unfold req;split <;> rfl
   ·rw[ae (by omega),ae (by omega)];unfold req;split <;> rfl)
  (fun i s h hI=>by
   by_cases c:p l[i]=true
   ·by_cases c2:bq l[i] x=0
    ·rw[if_pos c,if_pos c2,if_neg (by simp[c,c2])];exact⟨rfl,by omega⟩
    ·rw[if_pos c,if_neg c2,if_pos (by simp[c2]),ae (by omega)];exact⟨rfl,by simp;omega⟩
   ·rw[if_neg c,if_pos (by simp[c]),ae (by omega)];exact⟨rfl,by simp;omega⟩)
  k [] (by omega) (by simp)
 rw[this.1,fe];rfl
def mO (mode:Int) (l:List GOcc) (p:GOcc→Bool):List GOcc:=if mode=1 then(l.filter p).drop ((l.filter p).length-1) else if mode=2 then(l.filter p).take 1 else l.filter p
theorem u4 (l:List GOcc):nq l []=l:=by unfold nq;simp
theorem vQ (k:Nat) (hk:1000000000000≤k) (mode:Int) (hm:0≤mode∧mode≤4) (l:List GOcc) (p:GOcc→Bool) (hl:l.length≤40000000000) (hf:ez l) :
  aJ.f k mode l (l.map p)=some (mO mode l p,nq l (if(l.filter p).length=0 then[] else nR mode (l.filter p))):=by
 unfold aJ.f mO nR
 rw[ER k hk l p hl]
 simp only[Option.bind_some]
 have hlen:(l.filter p).length≤l.length:=List.length_filter_le _ _
 generalize hs:l.filter p=s at hlen⊢
 by_cases h0:s.length=0
 ·rw[if_pos (by omega),if_pos h0,u4]
  have e:s=[]:=List.length_eq_zero_iff.1 h0
  subst e
  simp
 rw[if_neg (by omega),if_neg h0]
 by_cases m0:mode=0
 ·subst m0
  simp[u4]
 rw[if_neg m0]
 by_cases m1:mode=1
 ·obtain⟨j,hj⟩:∃j,s.length=j+1:=⟨s.length-1,by omega⟩
  have e:IntKind.wrap .i64 (((s.length:Nat):Int)-1)=(j:Int):=by rw[hj];exact wrP j (by omega)
  rw[if_pos m1,if_pos m1,if_pos m1,e,ae (by omega),ae (by omega),ae (by omega),u4,Int.toNat_natCast,show s.length-1=j by omega,List.take_of_length_le (by rw[List.length_drop];omega)]
 rw[if_neg m1,if_neg m1,if_neg m1]
 by_cases m2:mode=2
 ·rw[if_pos m2,if_pos m2,if_pos m2,ae (by omega),ae (by omega),ae (by omega)]
  cases s with
  |nil=>simp at h0
  |cons x t=>
   rw[EO k hk l p hl hf x t]
   simp only[Option.bind_some,Option.some.injEq,Prod.mk.injEq,true_and]
   unfold nq
   apply List.filter_congr
   intro e he
   have hx:p x=true:=by
    have:x∈l.filter p:=by rw[hs];simp
    exact(List.mem_filter.1 this).2
   have sym:bq x e=0↔bq e x=0:=by have:=oh x e;omega
   by_cases c:bq e x=0
   ·have:=jD c
    subst this
    simp[hx,iz]
   ·simp[c,sym]
 rw[if_neg m2,if_neg m2,if_neg m2,Er k hk l p hl]
 have gone:(if mode=4 then s else if mode=3 then s else[])=s:=by
  by_cases m4:mode=4
  ·rw[if_pos m4]
  ·rw[if_neg m4,if_pos (by omega)]
 rw[gone]
 simp only[Option.bind_some,Option.some.injEq,Prod.mk.injEq,true_and]
 unfold nq
 apply List.filter_congr
 intro e he
 congr 1
 rw[Bool.eq_iff_iff,List.any_eq_true]
 constructor
 ·intro h
  exact⟨e,by rw[←hs];exact List.mem_filter.2 ⟨he,h⟩,by simp[iz]⟩
 ·rintro⟨g,h1,h2⟩
  have:=jD (show bq g e=0 by simpa using h2)
  subst this
  rw[←hs] at h1
  exact(List.mem_filter.1 h1).2
theorem DG (k:Nat) (hk:1000000000000≤k) (o:GOcc) (l:List GOcc) (hl:l.length≤40000000000) (hi:Ids l) (ho:cy o.Ids) :
  aZ.l0 k l k o.From o.To o.Ids 0=some ((nv o l).From,(nv o l).To,(nv o l).Ids):=by
 have:=dM (fun s:GOcc=>(s.From,s.To,s.Ids)) l (fun s e=>fI.f k s e) (fun n s i=>aZ.l0 k l n s.From s.To s.Ids i) cz (fun i s=>cy s.Ids)
  (fun n s=>by rw[aZ.l0,if_neg (by omega)])
  (fun n s i h=>by
   rw[aZ.l0,if_pos (by omega),ae (by omega),Int.toNat_natCast,List.getElem?_eq_getElem h]
   simp only[Option.bind_some]
   rw[wrS i (by omega)])
  (fun i s h hI=>⟨qK k hk s _ (by have:=fg hI;omega) (hi.few _ (List.getElem_mem h)),iY hI (hi _ (List.getElem_mem h))⟩) k o (by omega) ho
 exact this.1
theorem rA (k:Nat) (hk:1000000000000≤k) (o:GOcc) (l:List GOcc) (hl:l.length≤40000000000) (hi:Ids l) (ho:cy o.Ids):aZ.l1 k l o k [] 0=some (uD o l):=by
 have:=cf l (fun s e=>(fI.f k e o).bind fun x=>cg.f k s x) (aZ.l1 k l o) (fun s e=>cq s (cz o e)) (fun i s=>s.length≤i∧Ids s)
  (fun n s=>by rw[aZ.l1,if_neg (by omega)])
  (fun n s i h=>by
   rw[aZ.l1,if_pos (by omega),ae (by omega),Int.toNat_natCast,List.getElem?_eq_getElem h]
   simp only[Option.bind_some]
   rw[wrS i (by omega),Option.bind_assoc])
  (fun i s h hI=>by
   have hx:=hi _ (List.getElem_mem h)
   have hj:=iY ho hx
   refine⟨by rw[qK k hk _ o (hi.few _ (List.getElem_mem h)) (by have:=fg ho;omega),Bt hx ho];exact lK k hk s _ (by omega) hI.2.few (by have:=fg hj;omega),?_,rU hI.2 hj⟩
   have:=fL (cz o l[i]) s;omega)
  k [] (by omega) ⟨by simp,fun x hx=>by simp at hx⟩
 exact this.1
theorem rJ (k:Nat) (hk:1000000000000≤k) (mode:Int) (o:GOcc) (l:List GOcc) (p:GOcc→Bool) (hl:l.length≤40000000000) (hi:Ids l) (ho:cy o.Ids) :
  aZ.f k mode (mO mode l p) o=some (d9 mode o (l.filter p)):=by
 have hlen:(l.filter p).length≤l.length:=List.length_filter_le _ _
 have hs:Ids (l.filter p):=fun x hx=>hi x (List.mem_filter.1 hx).1
 unfold aZ.f mO d9
 generalize l.filter p=s at hlen hs⊢
 by_cases h0:s.length=0
 ·have e:s=[]:=List.length_eq_zero_iff.1 h0
  subst e
  simp
 rw[if_neg h0]
 by_cases m1:mode=1
 ·have hlt:s.length-1<s.length:=by omega
  have e:s.drop (s.length-1)=[s[s.length-1]]:=by rw[List.drop_eq_getElem_cons hlt,List.drop_eq_nil_of_le (by omega)]
  rw[if_pos m1,if_pos m1,if_neg (by rw[e];simp),if_neg (by omega),e,rA k hk o _ (by simp) (fun x hx=>by rw[List.mem_singleton.1 hx];exact hs _ (List.getElem_mem hlt)) ho,List.getElem?_eq_getElem hlt]
  rfl
 rw[if_neg m1,if_neg m1]
 by_cases m2:mode=2
 ·cases s with
  |nil=>simp at h0
  |cons x t=>
   rw[if_pos m2,if_pos m2,if_neg (by simp),if_neg (by omega),show(x::t).take 1=[x] from rfl,rA k hk o _ (by simp) (fun y hy=>by rw[List.mem_singleton.1 hy];exact hs _ (by simp)) ho]
   rfl
 rw[if_neg m2,if_neg m2,if_neg (by omega)]
 by_cases m4:mode=4
 ·rw[if_pos m4,if_pos m4,DG k hk o s (by omega) hs ho]
  simp only[Option.bind_some]
  rw[ae (by simp)]
  rfl
 ·rw[if_neg m4,if_neg m4,rA k hk o s (by omega) hs ho]
  rfl
/-- an ordered list of occurrences with right numbers, no longer than m -/
def Ok (m:Nat) (l:List GOcc):Prop:=Asc l∧Ids l∧l.length≤m
theorem Ok.nil (m:Nat):Ok m []:=⟨by simp[Asc],fun x hx=>by simp at hx,by simp⟩
theorem Ok.mono {m n:Nat} {l:List GOcc} (h:Ok m l) (hm:m≤n):Ok n l:=⟨h.1,h.2.1,Nat.le_trans h.2.2 hm⟩
theorem Ok.filter {m:Nat} {l:List GOcc} (p:GOcc→Bool) (h:Ok m l):Ok m (l.filter p):=⟨List.Pairwise.sublist List.filter_sublist h.1,fun x hx=>h.2.1 x (List.mem_filter.1 hx).1,Nat.le_trans (List.length_filter_le _ _) h.2.2⟩
theorem Ok.rem {m:Nat} {l gone:List GOcc} (h:Ok m l):Ok m (nq l gone):=h.filter _
theorem Ok.merge {m n:Nat} {l r:List GOcc} (h:Ok m l) (hr:Ok n r):Ok (m+n) (bd l r):=⟨cL h.1,ib h.2.1 hr.2.1,by have:=cJ r l;have:=h.2.2;have:=hr.2.2;omega⟩
theorem Ok.put {m:Nat} {l:List GOcc} {o:GOcc} (h:Ok m l) (ho:cy o.Ids):Ok (m+1) (cq l o):=⟨lD h.1,rU h.2.1 ho,by have:=fL o l;have:=h.2.2;omega⟩
theorem Ok.found {m:Nat} {mode:Int} {o:GOcc} {l:List GOcc} (h:Ok m l) (ho:cy o.Ids):Ok m (d9 mode o l):=by
 have one:∀x:GOcc,cy x.Ids→l.length≠0→Ok m [x]:=fun x hx hl=>⟨by simp[Asc],fun y hy=>by rw[List.mem_singleton.1 hy];exact hx,by have:=h.2.2;simp;omega⟩
 unfold d9
 by_cases h0:l.length=0
 ·rw[if_pos h0];exact Ok.nil m
 rw[if_neg h0]
 split
 ·exact one _ (iY ho (by rw[List.getElem?_eq_getElem (show l.length-1<l.length by omega)];exact h.2.1 _ (List.getElem_mem _))) h0
 split
 ·exact one _ (iY ho (by rw[List.getElem?_eq_getElem (show 0<l.length by omega)];exact h.2.1 _ (List.getElem_mem _))) h0
 split
 ·exact one _ (AH h.2.1 ho) h0
 ·obtain⟨a,b,c⟩:=uj o ho l [] h.2.1 (Ok.nil 0).2.1 (Ok.nil 0).1
  exact⟨b,a,by simp at c;have:=h.2.2;exact Nat.le_trans c this⟩
theorem Ok.gone {m:Nat} {mode:Int} {l:List GOcc} (h:Ok m l):Ok m (if l.length=0 then[] else nR mode l):=by
 split
 ·exact Ok.nil m
 unfold nR
 split
 ·exact Ok.nil m
 split
 ·exact⟨List.Pairwise.sublist (List.take_sublist _ _) h.1,fun x hx=>h.2.1 x (List.mem_of_mem_take hx),by have:=h.2.2;simp;omega⟩
 split
 ·exact h
 split
 ·exact h
 ·exact Ok.nil m
/-- one on the right of a sequence or an absence: what is left waiting, and what was found -/
def em (mode:Int) (p:GOcc→GOcc→Bool) (s:List GOcc×List GOcc) (o:GOcc):List GOcc×List GOcc:=
 (nq s.1 (if(s.1.filter (p o)).length=0 then[] else nR mode (s.1.filter (p o))),bd s.2 (d9 mode o (s.1.filter (p o))))
theorem rR {mode:Int} {p:GOcc→GOcc→Bool} {s:List GOcc×List GOcc} {o:GOcc} {m n:Nat} (h1:Ok m s.1) (h2:Ok n s.2) (ho:cy o.Ids):Ok m (em mode p s o).1∧Ok (n+m) (em mode p s o).2:=
 ⟨h1.rem,h2.merge ((h1.filter _).found ho)⟩
def before (o s:GOcc):Bool:=decide (s.To<o.From)
theorem xR (k:Nat) (hk:1000000000000≤k) (mode:Int) (right:List GOcc) (left:List GOcc) (m c:Nat) (hm:m≤40000000000) (hc:right.length≤c) (hc2:c≤40000000000) (hcm:c * m≤40000000000) (hl:Ok m left) (hr:Ids right) :
  bM.l0 k mode right k left [] 0=some (right.foldl (em mode before) (left,[]))∧Ok m (right.foldl (em mode before) (left,[])).1∧Ok (c * m) (right.foldl (em mode before) (left,[])).2:=by
 have:=dM (fun s:List GOcc×List GOcc=>s) right (fun s e=>(aW.f (fun y0=>fp.f y0 e) k s.1).bind fun x46=>((aK.f k mode e x46).bind fun x49=>((aO.f k s.2 x49.1).bind fun x52=>((bj.f k s.1 x49.2).bind fun x55=>some (x55,x52))))) (fun n s i=>bM.l0 k mode right n s.1 s.2 i) (em mode before) (fun i s=>Ok m s.1∧Ok (i * m) s.2)
  (fun n s=>by rw[bM.l0,if_neg (by omega)])
  (fun n s i h=>by
   rw[bM.l0,if_pos (by omega),ae (by omega),Int.toNat_natCast,List.getElem?_eq_getElem h]
   simp only[Option.bind_some,Option.bind_assoc]
   rw[wrS i (by omega)])
  (fun i s h hI=>by
   obtain⟨h1,h2⟩:=hI
   have ho:=hr _ (List.getElem_mem h)
   have hb:i * m≤40000000000:=Nat.le_trans (Nat.mul_le_mul_right _ (by omega)) hcm
   have hf:=h1.filter (before right[i])
   have hfo:=hf.found (mode:=mode) ho
   have hg:=hf.gone (mode:=mode)
   have e1:aW.f (fun y0=>fp.f y0 right[i]) k s.1=some (s.1.filter (before right[i])):=m7 k hk _ _ _ (by have:=h1.2.2;omega) (fun x hx=>rfl)
   have:=h1.2.2;have:=h2.2.2;have:=hf.2.2;have:=hfo.2.2;have:=hg.2.2
   refine⟨?_,?_⟩
   ·rw[e1]
    simp only[Option.bind_some]
    rw[mM k hk mode _ _ (by omega) hf.2.1 ho]
    simp only[Option.bind_some]
    rw[bV k hk _ _ (by omega) h2.2.1.few hfo.2.1.few h2.1]
    simp only[Option.bind_some]
    rw[pR k hk _ _ (by omega) (by omega) hg.2.1.few hg.1]
    rfl
   ·have:=rR (mode:=mode) (p:=before) h1 h2 ho
    refine⟨this.1,?_⟩
    rw[Nat.succ_mul]
    exact this.2)
  k (left,[]) (by omega) ⟨hl,by simpa using Ok.nil 0⟩
 exact⟨this.1,this.2.1,this.2.2.mono (Nat.mul_le_mul_right _ hc)⟩
theorem tq {α:Type} (l:List α) (p:α→Bool) (L:Nat→List Bool→Int→Option (List Bool)) (hend:∀n s,L (n+1) s (l.length:Int)=some s)
  (hstep:∀n s (i:Nat) (h:i<l.length),s.length=l.length→L (n+1) s (i:Int)=L n (s.set i (p l[i])) ((i+1:Nat):Int)) :
  ∀(d i n:Nat) (s:List Bool),i+d=l.length→d<n→s.length=l.length→s.take i=(l.map p).take i→L n s (i:Int)=some (l.map p):=by
 intro d
 induction d with
 |zero=>
  intro i n s hi hn hs ht
  obtain⟨n,rfl⟩:∃m,n=m+1:=⟨n-1,by omega⟩
  have e:i=l.length:=by omega
  subst e
  rw[hend,Option.some.injEq]
  rwa [List.take_of_length_le (by omega),List.take_of_length_le (by simp)] at ht
 |succ d ih=>
  intro i n s hi hn hs ht
  obtain⟨n,rfl⟩:∃m,n=m+1:=⟨n-1,by omega⟩
  have hlt:i<l.length:=by omega
  rw[hstep n s i hlt hs]
  refine ih (i+1) n _ (by omega) (by omega) (by simpa using hs) ?_
  rw[List.take_add_one,List.take_set_of_le (Nat.le_refl _),ht,List.take_add_one]
  simp[hlt,hs]
theorem Cf (k:Nat) (hk:1000000000000≤k) (l:List GOcc) (o:GOcc) (hl:l.length≤40000000000):cw.f k l o=some (l.map (before o)):=by
 unfold cw.f
 rw[ae (by omega),ae (by omega),ae (by omega)]
 have:=tq l (before o) (cw.l0 k l o) (fun n s=>by rw[cw.l0,if_neg (by omega)])
  (fun n s i h hs=>by
   rw[cw.l0,if_pos (by omega),ae (by omega),Int.toNat_natCast,List.getElem?_eq_getElem h]
   simp only[Option.bind_some]
   rw[ae (by omega),ae (by omega),List.getElem?_eq_getElem (show i<s.length by omega)]
   simp only[Option.bind_some]
   rw[wrS i (by omega)]
   rfl)
  l.length 0 k (List.replicate l.length false) (by omega) (by omega) (by simp) (by simp)
 rw[show((0:Nat):Int)=0 from rfl] at this
 rw[this];rfl
theorem Dk (k:Nat) (hk:1000000000000≤k) (l:List GOcc) (hl:l.length≤40000000000):cR.f k l=some (l.map fun _=>true):=by
 unfold cR.f
 rw[ae (by omega),ae (by omega),ae (by omega)]
 have:=tq l (fun _=>true) (cR.l0 k l) (fun n s=>by rw[cR.l0,if_neg (by omega)])
  (fun n s i h hs=>by
   rw[cR.l0,if_pos (by omega),ae (by omega),ae (by omega),Int.toNat_natCast,List.getElem?_eq_getElem (show i<s.length by omega)]
   simp only[Option.bind_some]
   rw[wrS i (by omega)])
  l.length 0 k (List.replicate l.length false) (by omega) (by omega) (by simp) (by simp)
 rw[show((0:Nat):Int)=0 from rfl] at this
 rw[this];rfl
theorem xf (k:Nat) (hk:1000000000000≤k) (mode:Int) (hmo:0≤mode∧mode≤4) (right:List GOcc) (left:List GOcc) (m c:Nat) (hm:m≤40000000000) (hc:right.length≤c) (hc2:c≤40000000000) (hcm:c * m≤40000000000) (hl:Ok m left) (hr:Ids right) :
  dD.l0 k mode right k left [] 0=some (right.foldl (em mode before) (left,[])):=by
 have:=dM (fun s:List GOcc×List GOcc=>s) right (fun s e=>(cw.f k s.1 e).bind fun x52=>((aJ.f k mode s.1 x52).bind fun x55=>((aZ.f k mode x55.1 e).bind fun x61=>((aU.f k s.2 x61).bind fun x64=>some (x55.2,x64))))) (fun n s i=>dD.l0 k mode right n s.1 s.2 i) (em mode before) (fun i s=>Ok m s.1∧Ok (i * m) s.2)
  (fun n s=>by rw[dD.l0,if_neg (by omega)])
  (fun n s i h=>by
   rw[dD.l0,if_pos (by omega),ae (by omega),Int.toNat_natCast,List.getElem?_eq_getElem h]
   simp only[Option.bind_some,Option.bind_assoc]
   simp only[ae (show(0:Int)≤(i:Int) by omega),wrS i (show i<4611686018427387904 by omega)])
  (fun i s h hI=>by
   obtain⟨h1,h2⟩:=hI
   have ho:=hr _ (List.getElem_mem h)
   have hb:i * m≤40000000000:=Nat.le_trans (Nat.mul_le_mul_right _ (by omega)) hcm
   have hf:=h1.filter (before right[i])
   have hfo:=hf.found (mode:=mode) ho
   have:=h1.2.2;have:=h2.2.2;have:=hf.2.2;have:=hfo.2.2
   refine⟨?_,?_⟩
   ·rw[Cf k hk _ _ (by omega)]
    simp only[Option.bind_some]
    rw[vQ k hk mode hmo _ _ (by omega) h1.2.1.few]
    simp only[Option.bind_some]
    rw[rJ k hk mode _ _ _ (by omega) h1.2.1 ho]
    simp only[Option.bind_some]
    rw[dV k hk _ _ (by omega) h2.2.1.few hfo.2.1.few]
    rfl
   ·have:=rR (mode:=mode) (p:=before) h1 h2 ho
    refine⟨this.1,?_⟩
    rw[Nat.succ_mul]
    exact this.2)
  k (left,[]) (by omega) ⟨hl,by simpa using Ok.nil 0⟩
 exact this.1
theorem qQ {f:GOcc→GOcc} {z:GOcc}:∀{l acc:List GOcc},z∈acc→z∈l.foldl (fun s e=>cq s (f e)) acc
 |[],_,h=>h
 |x::l,acc,h=>qQ (l:=l) (fZ.2 (.inl h))
theorem BQ (mode:Int) (o:GOcc) (l:List GOcc):(d9 mode o l).length=0↔l.length=0:=by
 unfold d9
 by_cases h0:l.length=0
 ·simp[h0]
 ·rw[if_neg h0]
  split
  ·simp[h0]
  split
  ·simp[h0]
  split
  ·simp[h0]
  ·cases l with
   |nil=>simp at h0
   |cons x l=>
    have:cz o x∈uD o (x::l):=by
     unfold uD
     rw[List.foldl_cons]
     exact qQ (fZ.2 (.inr rfl))
    have:=List.length_pos_of_mem this
    simp at h0⊢
    intro e
    rw[e] at this
    simp at this
theorem uP (l:List GOcc):l.filter (fun _=>true)=l:=List.filter_eq_self.2 fun _ _=>rfl
def jF (mode:Int) (own:List GOcc) (o:GOcc) (alone:Bool):List GOcc:=if mode=1 then[o] else if mode=0 then cq own o else if alone=true then cq own o else own
theorem Ea (k:Nat) (hk:1000000000000≤k) (mode:Int) (own:List GOcc) (o:GOcc) (alone:Bool) (m:Nat) (hm:m≤40000000000) (h:Ok m own):eE.f k mode own o alone=some (jF mode own o alone):=by
 unfold eE.f jF
 have:=h.2.2
 rw[jJ k hk own o (by omega) h.2.1.few h.1]
 simp only[Option.bind_some]
 split
 ·rfl
 split
 ·rfl
 split <;> rfl
theorem Ok.store {m:Nat} {mode:Int} {own:List GOcc} {o:GOcc} {alone:Bool} (h:Ok m own) (ho:cy o.Ids):Ok (m+1) (jF mode own o alone):=by
 unfold jF
 split
 ·exact⟨by simp[Asc],fun y hy=>by rw[List.mem_singleton.1 hy];exact ho,by simp⟩
 split
 ·exact h.put ho
 split
 ·exact h.put ho
 ·exact h.mono (by omega)
/-- one met with those of the other side: its own side, the other side, what was found -/
def eg (mode:Int) (s:List GOcc×List GOcc×List GOcc) (o:GOcc):List GOcc×List GOcc×List GOcc:=
 (jF mode s.1 o (decide (s.2.1.length=0)),nq s.2.1 (if s.2.1.length=0 then[] else nR mode s.2.1),bd s.2.2 (d9 mode o s.2.1))
theorem pJ {mode:Int} {s:List GOcc×List GOcc×List GOcc} {o:GOcc} {a b c:Nat} (h1:Ok a s.1) (h2:Ok b s.2.1) (h3:Ok c s.2.2) (ho:cy o.Ids):Ok (a+1) (eg mode s o).1∧Ok b (eg mode s o).2.1∧Ok (c+b) (eg mode s o).2.2:=
 ⟨h1.store ho,h2.rem,h3.merge (h2.found ho)⟩
/-- the program's half -/
theorem nQ (k:Nat) (hk:1000000000000≤k) (mode:Int) (own other out:List GOcc) (o:GOcc) (a b c:Nat) (ha:a≤40000000000) (hb:b≤40000000000) (hc:c≤40000000000) (h1:Ok a own) (h2:Ok b other) (h3:Ok c out) (ho:cy o.Ids) :
  ((aK.f k mode o other).bind fun x48=>((aO.f k out x48.1).bind fun x51=>((bj.f k other x48.2).bind fun x54=>((eE.f k mode own o ((x48.1.length:Int)==0)).bind fun x57=>some (x57,x54,x51)))))=some (eg mode (own,other,out) o):=by
 have hfo:=h2.found (mode:=mode) ho
 have hg:=h2.gone (mode:=mode)
 have:=h1.2.2;have:=h2.2.2;have:=h3.2.2;have:=hfo.2.2;have:=hg.2.2
 rw[mM k hk mode o other (by omega) h2.2.1 ho]
 simp only[Option.bind_some]
 rw[bV k hk _ _ (by omega) h3.2.1.few hfo.2.1.few h3.1]
 simp only[Option.bind_some]
 rw[pR k hk _ _ (by omega) (by omega) hg.2.1.few hg.1]
 simp only[Option.bind_some]
 have e:(((d9 mode o other).length:Int)==0)=decide (other.length=0):=by
  rw[Bool.eq_iff_iff]
  simp only[beq_iff_eq,decide_eq_true_eq]
  rw[←BQ mode o other]
  omega
 rw[e,Ea k hk mode own o _ a (by omega) h1]
 rfl
/-- the reference's half -/
theorem wH (k:Nat) (hk:1000000000000≤k) (mode:Int) (hmo:0≤mode∧mode≤4) (own other out:List GOcc) (o:GOcc) (a b c:Nat) (ha:a≤40000000000) (hb:b≤40000000000) (hc:c≤40000000000) (h1:Ok a own) (h2:Ok b other) (h3:Ok c out) (ho:cy o.Ids) :
  ((gu.f k mode other own o).bind fun x36=>((aU.f k out x36.2.2).bind fun x39=>some (x36.2.1,x36.1,x39)))=some (eg mode (own,other,out) o):=by
 have hfo:=h2.found (mode:=mode) ho
 have:=h1.2.2;have:=h2.2.2;have:=h3.2.2;have:=hfo.2.2
 have hfew:Few o:=by have:=fg ho;omega
 unfold gu.f
 rw[Dk k hk other (by omega)]
 simp only[Option.bind_some]
 rw[vQ k hk mode hmo other _ (by omega) h2.2.1.few]
 simp only[Option.bind_some]
 rw[rJ k hk mode o other _ (by omega) h2.2.1 ho,lK k hk own o (by omega) h1.2.1.few hfew]
 simp only[Option.bind_some,uP]
 have mg:=dV k hk out (d9 mode o other) (by omega) h3.2.1.few hfo.2.1.few
 unfold eg jF
 by_cases m0:mode=0
 ·rw[if_pos m0]
  simp only[Option.bind_some,mg]
  rw[if_neg (show ¬mode=1 by omega),if_pos m0]
 rw[if_neg m0]
 by_cases m1:mode=1
 ·rw[if_pos m1]
  simp only[Option.bind_some,mg]
  rw[if_pos m1]
 rw[if_neg m1]
 have e:((mO mode other fun _=>true).length:Int)=0↔other.length=0:=by
  unfold mO
  rw[uP,if_neg m1]
  split
  ·rw[List.length_take];omega
  ·omega
 by_cases h0:other.length=0
 ·rw[if_pos (e.2 h0)]
  simp only[Option.bind_some,mg]
  rw[if_neg m1,if_neg m0,if_pos (show decide (other.length=0)=true by simpa using h0)]
 ·rw[if_neg (fun x=>h0 (e.1 x))]
  simp only[Option.bind_some,mg]
  rw[if_neg m1,if_neg m0,if_neg (show ¬decide (other.length=0)=true by simpa using h0)]
/-- one on the right of a conjunction: left, right, found -/
def iv (mode:Int) (s:List GOcc×List GOcc×List GOcc) (o:GOcc):List GOcc×List GOcc×List GOcc:=
 ((eg mode (s.2.1,s.1,s.2.2) o).2.1,(eg mode (s.2.1,s.1,s.2.2) o).1,(eg mode (s.2.1,s.1,s.2.2) o).2.2)
/-- left and right have grown by no more than i, found by no more than i times both -/
def kK (m:Nat) (i:Nat) (s:List GOcc×List GOcc×List GOcc):Prop:=Ok (m+i) s.1∧Ok (m+i) s.2.1∧Ok (i * (m+100)) s.2.2
theorem kK.half {m i:Nat} {mode:Int} {s:List GOcc×List GOcc×List GOcc} {o:GOcc} (h:kK m i s) (hi:i<100) (ho:cy o.Ids):kK m (i+1) (eg mode s o):=by
 obtain⟨a,b,c⟩:=pJ (mode:=mode) h.1 h.2.1 h.2.2 ho
 refine⟨a,b.mono (by omega),c.mono ?_⟩
 rw[Nat.succ_mul];omega
theorem kK.other {m i:Nat} {mode:Int} {s:List GOcc×List GOcc×List GOcc} {o:GOcc} (h:kK m i s) (hi:i<100) (ho:cy o.Ids):kK m (i+1) (iv mode s o):=by
 obtain⟨a,b,c⟩:=pJ (mode:=mode) (s:=(s.2.1,s.1,s.2.2)) h.2.1 h.1 h.2.2 ho
 refine⟨b.mono (by omega),a,c.mono ?_⟩
 rw[Nat.succ_mul];omega
def eN (mode:Int) (l r left right:List GOcc):List GOcc×List GOcc×List GOcc:=right.foldl (iv mode) (left.foldl (eg mode) (l,r,[]))
theorem C1 (k:Nat) (hk:1000000000000≤k) (mode:Int) (p:aB) (left right:List GOcc) (m:Nat) (hm:m≤20000) (h1:Ok m p.Left) (h2:Ok m p.Right) (hl:Ids left) (hr:Ids right) (hn:left.length+right.length≤100) :
  aL.f k p mode left right=some (⟨(eN mode p.Left p.Right left right).1,(eN mode p.Left p.Right left right).2.1⟩,(eN mode p.Left p.Right left right).2.2)∧kK m 100 (eN mode p.Left p.Right left right):=by
 have big:∀i,i≤100→i * (m+100)≤100 * 20100:=fun i hi=>Nat.mul_le_mul hi (by omega)
 have a1:=dM (fun s:List GOcc×List GOcc×List GOcc=>s) left (fun s e=>((aK.f k mode e s.2.1).bind fun x48=>((aO.f k s.2.2 x48.1).bind fun x51=>((bj.f k s.2.1 x48.2).bind fun x54=>((eE.f k mode s.1 e ((x48.1.length:Int)==0)).bind fun x57=>some (x57,x54,x51)))))) (fun n s i=>aL.l0 k mode left n s.1 s.2.1 s.2.2 i) (eg mode) (kK m)
  (fun n s=>by rw[aL.l0,if_neg (by omega)])
  (fun n s i h=>by
   rw[aL.l0,if_pos (by omega),ae (by omega),Int.toNat_natCast,List.getElem?_eq_getElem h]
   simp only[Option.bind_some,Option.bind_assoc]
   rw[wrS i (by omega)])
  (fun i s h hI=>⟨nQ k hk mode s.1 s.2.1 s.2.2 _ (m+i) (m+i) _ (by omega) (by omega) (by have:=big i (by omega);omega) hI.1 hI.2.1 hI.2.2 (hl _ (List.getElem_mem h)),hI.half (by omega) (hl _ (List.getElem_mem h))⟩)
  k (p.Left,p.Right,[]) (by omega) ⟨h1,h2,by simpa using Ok.nil 0⟩
 have a2:=dM (fun s:List GOcc×List GOcc×List GOcc=>s) right (fun s e=>((aK.f k mode e s.1).bind fun x48=>((aO.f k s.2.2 x48.1).bind fun x51=>((bj.f k s.1 x48.2).bind fun x54=>((eE.f k mode s.2.1 e ((x48.1.length:Int)==0)).bind fun x57=>some (x54,x57,x51)))))) (fun n s i=>aL.l1 k mode right n s.1 s.2.1 s.2.2 i) (iv mode) (fun i=>kK m (left.length+i))
  (fun n s=>by rw[aL.l1,if_neg (by omega)])
  (fun n s i h=>by
   rw[aL.l1,if_pos (by omega),ae (by omega),Int.toNat_natCast,List.getElem?_eq_getElem h]
   simp only[Option.bind_some,Option.bind_assoc]
   rw[wrS i (by omega)])
  (fun i s h hI=>by
   have q:=nQ k hk mode s.2.1 s.1 s.2.2 _ (m+(left.length+i)) (m+(left.length+i)) _ (by omega) (by omega) (by have:=big (left.length+i) (by omega);omega) hI.2.1 hI.1 hI.2.2 (hr _ (List.getElem_mem h))
   refine⟨?_,hI.other (by omega) (hr _ (List.getElem_mem h))⟩
   have q2:=congrArg (Option.map fun t:List GOcc×List GOcc×List GOcc=>(t.2.1,t.1,t.2.2)) q
   simp only[Option.map_bind,Option.map_some,Function.comp_def] at q2
   exact q2)
  k (left.foldl (eg mode) (p.Left,p.Right,[])) (by omega) a1.2
 refine⟨?_,?_⟩
 ·unfold aL.f
  rw[a1.1]
  simp only[Option.bind_some]
  rw[a2.1]
  rfl
 ·obtain⟨x,y,z⟩:=a2.2
  exact⟨x.mono (by omega),y.mono (by omega),z.mono (Nat.mul_le_mul_right _ (by omega))⟩
def gT (mode:Int) (l left right:List GOcc):List GOcc×List GOcc:=(bd (right.foldl (em mode before) (l,[])).1 left,(right.foldl (em mode before) (l,[])).2)
theorem rF (k:Nat) (hk:1000000000000≤k) (mode:Int) (p:aB) (left right:List GOcc) (m c:Nat) (hm:m≤40000000000) (hc2:c≤40000000000) (hcm:c * m≤40000000000) (h1:Ok m p.Left) (hl:Ids left) (hr:Ids right) (hn:left.length≤40000000000) (hn2:right.length≤c) :
  bM.f k p mode left right=some (⟨(gT mode p.Left left right).1,p.Right⟩,(gT mode p.Left left right).2)∧Ok (m+left.length) (gT mode p.Left left right).1∧Ok (c * m) (gT mode p.Left left right).2:=by
 obtain⟨a,b,c⟩:=xR k hk mode right p.Left m c hm hn2 hc2 hcm h1 hr
 have:=b.2.2
 refine⟨?_,⟨cL b.1,ib b.2.1 hl,by have:=cJ left (right.foldl (em mode before) (p.Left,[])).1;show(bd _ _).length≤_;omega⟩,c⟩
 unfold bM.f
 rw[a]
 simp only[Option.bind_some]
 rw[bV k hk _ _ (by omega) b.2.1.few hl.few b.1]
 rfl
theorem yS (k:Nat) (hk:1000000000000≤k) (mode:Int) (hmo:0≤mode∧mode≤4) (p:aB) (left right:List GOcc) (m c:Nat) (hm:m≤40000000000) (hc2:c≤40000000000) (hcm:c * m≤40000000000) (h1:Ok m p.Left) (hl:Ids left) (hr:Ids right) (hn:left.length≤40000000000) (hn2:right.length≤c) :
  dD.f k mode p left right=some (⟨(gT mode p.Left left right).1,p.Right⟩,(gT mode p.Left left right).2):=by
 obtain⟨_,b,_⟩:=xR k hk mode right p.Left m c hm hn2 hc2 hcm h1 hr
 have:=b.2.2
 unfold dD.f
 rw[xf k hk mode hmo right p.Left m c hm hn2 hc2 hcm h1 hr]
 simp only[Option.bind_some]
 rw[dV k hk _ _ (by omega) b.2.1.few hl.few]
 rfl
theorem B9 (k:Nat) (hk:1000000000000≤k) (mode:Int) (p:aB) (left right:List GOcc) (m:Nat) (hm:m≤20000) (h1:Ok m p.Left) (hl:Ids left) (hr:Ids right) (hn:left.length≤100) (hn2:right.length≤100) :
  bM.f k p mode left right=some (⟨(gT mode p.Left left right).1,p.Right⟩,(gT mode p.Left left right).2)∧Ok (m+left.length) (gT mode p.Left left right).1∧Ok (100 * m) (gT mode p.Left left right).2:=
 rF k hk mode p left right m 100 (by omega) (by omega) (by omega) h1 hl hr (by omega) hn2
def qF (mid:List GOcc) (a b:Int):Bool:=mid.any fun x=>decide (a<x.From)&&decide (x.To<b)
def dF (mid:List GOcc) (o s:GOcc):Bool:=decide (s.To<o.From)&& !qF mid s.To o.From
theorem zj (k:Nat) (mid:List GOcc) (a b:Int) (hl:mid.length≤40000000000):∀(d i n:Nat),i+d=mid.length→d<n→ct.l0 k mid a b n (i:Int)=some (if qF (mid.drop i) a b=true then .error true else .ok ()):=by
 intro d
 induction d with
 |zero=>
  intro i n hi hn
  obtain⟨n,rfl⟩:∃m,n=m+1:=⟨n-1,by omega⟩
  rw[ct.l0,if_neg (by omega),List.drop_eq_nil_of_le (by omega)]
  rfl
 |succ d ih=>
  intro i n hi hn
  obtain⟨n,rfl⟩:∃m,n=m+1:=⟨n-1,by omega⟩
  have h:i<mid.length:=by omega
  have nx:=ih (i+1) n (by omega) (by omega)
  rw[ct.l0,if_pos (by omega),ae (by omega),Int.toNat_natCast,List.getElem?_eq_getElem h,List.drop_eq_getElem_cons h]
  simp only[Option.bind_some]
  have e:qF (mid[i]::mid.drop (i+1)) a b=((decide (a<mid[i].From)&&decide (mid[i].To<b))||qF (mid.drop (i+1)) a b):=by unfold qF;rw[List.any_cons]
  rw[e]
  by_cases c1:a<mid[i].From
  ·rw[if_pos c1,ae (by omega)]
   by_cases c2:mid[i].To<b
   ·rw[if_pos c2];simp[c1,c2]
   ·rw[if_neg c2,wrS i (by omega),nx];simp[c2]
  ·rw[if_neg c1,wrS i (by omega),nx];simp[c1]
theorem A6 (k:Nat) (hk:1000000000000≤k) (mid:List GOcc) (a b:Int) (hl:mid.length≤40000000000):ct.f k mid a b=some (qF mid a b):=by
 unfold ct.f
 have:=zj k mid a b hl mid.length 0 k (by omega) (by omega)
 rw[show((0:Nat):Int)=0 from rfl,List.drop_zero] at this
 rw[this]
 cases qF mid a b <;> rfl
theorem wB (k:Nat) (hk:1000000000000≤k) (s:ax) (o:GOcc) (hl:s.Left.length≤40000000000) (hm:s.Mid.length≤40000000000):cD.f k s o=some (s.Left.map (dF s.Mid o)):=by
 unfold cD.f
 rw[ae (by omega),ae (by omega),ae (by omega)]
 have:=tq s.Left (dF s.Mid o) (cD.l0 k s o) (fun n t=>by rw[cD.l0,if_neg (by omega)])
  (fun n t i h hs=>by
   rw[cD.l0,if_pos (by omega),ae (by omega),Int.toNat_natCast,List.getElem?_eq_getElem h]
   simp only[Option.bind_some]
   unfold dF
   by_cases c:s.Left[i].To<o.From
   ·rw[if_pos c,ae (by omega),A6 k hk _ _ _ hm]
    simp only[Option.bind_some]
    rw[ae (by omega),ae (by omega),List.getElem?_eq_getElem (show i<t.length by omega)]
    simp only[Option.bind_some]
    rw[wrS i (by omega)]
    simp[c]
   ·rw[if_neg c,ae (by omega),ae (by omega),List.getElem?_eq_getElem (show i<t.length by omega)]
    simp only[Option.bind_some]
    rw[wrS i (by omega)]
    simp[c])
  s.Left.length 0 k (List.replicate s.Left.length false) (by omega) (by omega) (by simp) (by simp)
 rw[show((0:Nat):Int)=0 from rfl] at this
 rw[this];rfl
theorem BK (k:Nat) (g1:GOcc→Option Bool) (p:GOcc→Bool) (l:List GOcc) (hl:l.length≤40000000000) (hp:∀x∈l,g1 x=some (p x)):∀(d i n:Nat),i+d=l.length→d<n→
  ∃r,bD.l0 k g1 l n (i:Int)=some r∧(((l.drop i).any p=false∧r= .ok ())∨((l.drop i).any p=true∧∃j:Nat,r= .error (j:Int))):=by
 intro d
 induction d with
 |zero=>
  intro i n hi hn
  obtain⟨n,rfl⟩:∃m,n=m+1:=⟨n-1,by omega⟩
  rw[bD.l0,if_neg (by omega),List.drop_eq_nil_of_le (by omega)]
  exact⟨_,rfl,.inl ⟨rfl,rfl⟩⟩
 |succ d ih=>
  intro i n hi hn
  obtain⟨n,rfl⟩:∃m,n=m+1:=⟨n-1,by omega⟩
  have h:i<l.length:=by omega
  rw[bD.l0,if_pos (by omega),ae (by omega),Int.toNat_natCast,List.getElem?_eq_getElem h,List.drop_eq_getElem_cons h]
  simp only[Option.bind_some,hp _ (List.getElem_mem h),List.any_cons]
  by_cases c:p l[i]=true
  ·rw[if_pos c]
   exact⟨_,rfl,.inr ⟨by simp[c],i,rfl⟩⟩
  ·rw[if_neg c,wrS i (by omega)]
   have c':p l[i]=false:=by simpa using c
   rw[c',Bool.false_or]
   exact ih (i+1) n (by omega) (by omega)
theorem Aa (k:Nat) (hk:1000000000000≤k) (g1:GOcc→Option Bool) (p:GOcc→Bool) (l:List GOcc) (hl:l.length≤40000000000) (hp:∀x∈l,g1 x=some (p x)):ea.f g1 k l=some (l.any p):=by
 unfold ea.f bD.f
 obtain⟨r,h1,h2⟩:=BK k g1 p l hl hp l.length 0 k (by omega) (by omega)
 rw[show((0:Nat):Int)=0 from rfl] at h1
 rw[List.drop_zero] at h2
 rw[h1]
 rcases h2 with⟨h2,rfl⟩|⟨h2,j,rfl⟩
 ·rw[h2];rfl
 ·rw[h2]
  simp only[Option.bind_some]
  congr 1
theorem AC (k:Nat) (hk:1000000000000≤k) (s:ax) (o:GOcc) (hl:s.Left.length≤40000000000) (hm:s.Mid.length≤40000000000):ep.f k s o=some (s.Left.filter (dF s.Mid o)):=by
 unfold ep.f
 rw[m7 k hk _ (dF s.Mid o) s.Left hl (fun x hx=>by
  unfold fW.f dF
  by_cases c:x.To<o.From
  ·rw[if_pos c,Aa k hk _ (fun y=>decide (x.To<y.From)&&decide (y.To<o.From)) s.Mid hm (fun y hy=>by
    unfold fh.f
    by_cases c2:x.To<y.From
    ·rw[if_pos c2];simp[c2]
    ·rw[if_neg c2];simp[c2])]
   simp only[Option.bind_some,qF]
   simp[c]
  ·rw[if_neg c];simp[c])]
 rfl
theorem xN (k:Nat) (hk:1000000000000≤k) (mode:Int) (sp:ax) (right:List GOcc) (m c:Nat) (hm:m≤40000000000) (hc2:c≤40000000000) (hcm:c * m≤40000000000) (hc:right.length≤c) (hl:Ok m sp.Left) (hmid:sp.Mid.length≤40000000000) (hr:Ids right) :
  bK.l0 k sp mode right k sp.Left [] 0=some (right.foldl (em mode (dF sp.Mid)) (sp.Left,[]))∧Ok m (right.foldl (em mode (dF sp.Mid)) (sp.Left,[])).1∧Ok (c * m) (right.foldl (em mode (dF sp.Mid)) (sp.Left,[])).2:=by
 have:=dM (fun s:List GOcc×List GOcc=>s) right (fun s e=>(ep.f k ⟨s.1,sp.Mid⟩ e).bind fun x46=>((aK.f k mode e x46).bind fun x49=>((aO.f k s.2 x49.1).bind fun x52=>((bj.f k s.1 x49.2).bind fun x55=>some (x55,x52))))) (fun n s i=>bK.l0 k sp mode right n s.1 s.2 i) (em mode (dF sp.Mid)) (fun i s=>Ok m s.1∧Ok (i * m) s.2)
  (fun n s=>by rw[bK.l0,if_neg (by omega)])
  (fun n s i h=>by
   rw[bK.l0,if_pos (by omega),ae (by omega),Int.toNat_natCast,List.getElem?_eq_getElem h]
   simp only[Option.bind_some,Option.bind_assoc]
   rw[wrS i (by omega)])
  (fun i s h hI=>by
   obtain⟨h1,h2⟩:=hI
   have ho:=hr _ (List.getElem_mem h)
   have hb:i * m≤40000000000:=Nat.le_trans (Nat.mul_le_mul_right _ (by omega)) hcm
   have hf:=h1.filter (dF sp.Mid right[i])
   have hfo:=hf.found (mode:=mode) ho
   have hg:=hf.gone (mode:=mode)
   have:=h1.2.2;have:=h2.2.2;have:=hf.2.2;have:=hfo.2.2;have:=hg.2.2
   refine⟨?_,?_⟩
   ·rw[AC k hk ⟨s.1,sp.Mid⟩ _ (show s.1.length≤40000000000 by omega) hmid]
    simp only[Option.bind_some]
    rw[mM k hk mode _ _ (by omega) hf.2.1 ho]
    simp only[Option.bind_some]
    rw[bV k hk _ _ (by omega) h2.2.1.few hfo.2.1.few h2.1]
    simp only[Option.bind_some]
    rw[pR k hk _ _ (by omega) (by omega) hg.2.1.few hg.1]
    rfl
   ·have:=rR (mode:=mode) (p:=dF sp.Mid) h1 h2 ho
    refine⟨this.1,?_⟩
    rw[Nat.succ_mul]
    exact this.2)
  k (sp.Left,[]) (by omega) ⟨hl,by simpa using Ok.nil 0⟩
 exact⟨this.1,this.2.1,this.2.2.mono (Nat.mul_le_mul_right _ hc)⟩
theorem xg (k:Nat) (hk:1000000000000≤k) (mode:Int) (hmo:0≤mode∧mode≤4) (sp:ax) (right:List GOcc) (m c:Nat) (hm:m≤40000000000) (hc2:c≤40000000000) (hcm:c * m≤40000000000) (hc:right.length≤c) (hl:Ok m sp.Left) (hmid:sp.Mid.length≤40000000000) (hr:Ids right) :
  dH.l0 k mode sp right k sp.Left [] 0=some (right.foldl (em mode (dF sp.Mid)) (sp.Left,[])):=by
 have:=dM (fun s:List GOcc×List GOcc=>s) right (fun s e=>(cD.f k ⟨s.1,sp.Mid⟩ e).bind fun x52=>((aJ.f k mode s.1 x52).bind fun x55=>((aZ.f k mode x55.1 e).bind fun x61=>((aU.f k s.2 x61).bind fun x64=>some (x55.2,x64))))) (fun n s i=>dH.l0 k mode sp right n s.1 s.2 i) (em mode (dF sp.Mid)) (fun i s=>Ok m s.1∧Ok (i * m) s.2)
  (fun n s=>by rw[dH.l0,if_neg (by omega)])
  (fun n s i h=>by
   rw[dH.l0,if_pos (by omega),ae (by omega),Int.toNat_natCast,List.getElem?_eq_getElem h]
   simp only[Option.bind_some,Option.bind_assoc]
   simp only[ae (show(0:Int)≤(i:Int) by omega),wrS i (show i<4611686018427387904 by omega)])
  (fun i s h hI=>by
   obtain⟨h1,h2⟩:=hI
   have ho:=hr _ (List.getElem_mem h)
   have hb:i * m≤40000000000:=Nat.le_trans (Nat.mul_le_mul_right _ (by omega)) hcm
   have hf:=h1.filter (dF sp.Mid right[i])
   have hfo:=hf.found (mode:=mode) ho
   have:=h1.2.2;have:=h2.2.2;have:=hf.2.2;have:=hfo.2.2
   refine⟨?_,?_⟩
   ·rw[wB k hk ⟨s.1,sp.Mid⟩ _ (show s.1.length≤40000000000 by omega) hmid]
    simp only[Option.bind_some]
    rw[vQ k hk mode hmo _ _ (by omega) h1.2.1.few]
    simp only[Option.bind_some]
    rw[rJ k hk mode _ _ _ (by omega) h1.2.1 ho]
    simp only[Option.bind_some]
    rw[dV k hk _ _ (by omega) h2.2.1.few hfo.2.1.few]
    rfl
   ·have:=rR (mode:=mode) (p:=dF sp.Mid) h1 h2 ho
    refine⟨this.1,?_⟩
    rw[Nat.succ_mul]
    exact this.2)
  k (sp.Left,[]) (by omega) ⟨hl,by simpa using Ok.nil 0⟩
 exact this.1
def ew (mode:Int) (l mid a b c:List GOcc):List GOcc×List GOcc×List GOcc:=(bd (c.foldl (em mode (dF mid)) (l,[])).1 a,bd mid b,(c.foldl (em mode (dF mid)) (l,[])).2)
theorem rT (k:Nat) (hk:1000000000000≤k) (mode:Int) (sp:ax) (a b c:List GOcc) (m n:Nat) (hm:m≤40000000000) (hn2:n≤40000000000) (hnm:n * m≤40000000000) (h1:Ok m sp.Left) (h2:Ok m sp.Mid) (ha:Ids a) (hb:Ids b) (hc:Ids c) (na:a.length≤40000000000) (nb:b.length≤40000000000) (nc:c.length≤n) :
  bK.f k sp mode a b c=some (⟨(ew mode sp.Left sp.Mid a b c).1,(ew mode sp.Left sp.Mid a b c).2.1⟩,(ew mode sp.Left sp.Mid a b c).2.2)∧Ok (m+a.length) (ew mode sp.Left sp.Mid a b c).1∧Ok (m+b.length) (ew mode sp.Left sp.Mid a b c).2.1∧Ok (n * m) (ew mode sp.Left sp.Mid a b c).2.2:=by
 have q:=h2.2.2
 obtain⟨x,y,z⟩:=xN k hk mode sp c m n hm hn2 hnm nc h1 (by omega) hc
 have:=y.2.2
 refine⟨?_,⟨cL y.1,ib y.2.1 ha,Nat.le_trans (cJ _ _) (by omega)⟩,⟨cL h2.1,ib h2.2.1 hb,Nat.le_trans (cJ _ _) (by omega)⟩,z⟩
 unfold bK.f
 rw[x]
 simp only[Option.bind_some]
 rw[bV k hk _ _ (by omega) y.2.1.few ha.few y.1]
 simp only[Option.bind_some]
 rw[bV k hk _ _ (by omega) h2.2.1.few hb.few h2.1]
 rfl
theorem ye (k:Nat) (hk:1000000000000≤k) (mode:Int) (hmo:0≤mode∧mode≤4) (sp:ax) (a b c:List GOcc) (m n:Nat) (hm:m≤40000000000) (hn2:n≤40000000000) (hnm:n * m≤40000000000) (h1:Ok m sp.Left) (h2:Ok m sp.Mid) (ha:Ids a) (hb:Ids b) (hc:Ids c) (na:a.length≤40000000000) (nb:b.length≤40000000000) (nc:c.length≤n) :
  dH.f k mode sp a b c=some (⟨(ew mode sp.Left sp.Mid a b c).1,(ew mode sp.Left sp.Mid a b c).2.1⟩,(ew mode sp.Left sp.Mid a b c).2.2):=by
 have q:=h2.2.2
 obtain⟨_,y,_⟩:=xN k hk mode sp c m n hm hn2 hnm nc h1 (by omega) hc
 have:=y.2.2
 unfold dH.f
 rw[xg k hk mode hmo sp c m n hm hn2 hnm nc h1 (by omega) hc]
 simp only[Option.bind_some]
 rw[dV k hk _ _ (by omega) y.2.1.few ha.few]
 simp only[Option.bind_some]
 rw[dV k hk _ _ (by omega) h2.2.1.few hb.few]
 rfl
theorem B8 (k:Nat) (hk:1000000000000≤k) (mode:Int) (sp:ax) (a b c:List GOcc) (m:Nat) (hm:m≤20000) (h1:Ok m sp.Left) (h2:Ok m sp.Mid) (ha:Ids a) (hb:Ids b) (hc:Ids c) (na:a.length≤100) (nb:b.length≤100) (nc:c.length≤100) :
  bK.f k sp mode a b c=some (⟨(ew mode sp.Left sp.Mid a b c).1,(ew mode sp.Left sp.Mid a b c).2.1⟩,(ew mode sp.Left sp.Mid a b c).2.2)∧Ok (m+a.length) (ew mode sp.Left sp.Mid a b c).1∧Ok (m+b.length) (ew mode sp.Left sp.Mid a b c).2.1∧Ok (100 * m) (ew mode sp.Left sp.Mid a b c).2.2:=
 rT k hk mode sp a b c m 100 (by omega) (by omega) (by omega) h1 h2 ha hb hc (by omega) (by omega) nc
theorem DO (k:Nat) (hk:1000000000000≤k) (l:List GOcc) (p:GOcc→Bool) (hl:l.length≤40000000000):aE.l0 k l (l.map p) k [] 0=some (l.filter p):=by
 have:=cf l (fun s e=>if p e=true then(req ((s.length+1) * 40≤140737488355328) (some (s++[e]))) else some s) (aE.l0 k l (l.map p)) (fun s e=>if p e=true then s++[e] else s) (fun i s=>s.length≤i)
  (fun n s=>by rw[aE.l0,if_neg (by omega)])
  (fun n s i h=>by
   rw[aE.l0,if_pos (by omega),ae (by omega),Int.toNat_natCast,List.getElem?_map,List.getElem?_eq_getElem h]
   simp only[Option.map_some,Option.bind_some]
   rw[wrS i (by omega)]
   split
   ·rw[ae (by omega),ae (by omega)];unfold req;split <;> rfl
   ·rfl)
  (fun i s h hI=>by
   by_cases c:p l[i]=true
   ·rw[if_pos c,if_pos c,ae (by omega)];exact⟨rfl,by simp;omega⟩
   ·rw[if_neg c,if_neg c];exact⟨rfl,by omega⟩)
  k [] (by omega) (by simp)
 rw[this.1,fe];rfl
theorem D9 (k:Nat) (hk:1000000000000≤k) (l:List GOcc) (p:GOcc→Bool) (hl:l.length≤40000000000):aE.l2 k l (l.map p) k [] 0=some (l.filter fun e=> !p e):=by
 have:=cf l (fun s e=>if p e=true then some s else(req ((s.length+1) * 40≤140737488355328) (some (s++[e])))) (aE.l2 k l (l.map p)) (fun s e=>if(!p e)=true then s++[e] else s) (fun i s=>s.length≤i)
  (fun n s=>by rw[aE.l2,if_neg (by omega)])
  (fun n s i h=>by
   rw[aE.l2,if_pos (by omega),ae (by omega),Int.toNat_natCast,List.getElem?_map,List.getElem?_eq_getElem h]
   simp only[Option.map_some,Option.bind_some]
   rw[wrS i (by omega)]
   split
   ·rfl
   ·rw[ae (by omega),ae (by omega)];unfold req;split <;> rfl)
  (fun i s h hI=>by
   by_cases c:p l[i]=true
   ·rw[if_pos c,if_neg (by simp[c])];exact⟨rfl,by omega⟩
   ·rw[if_neg c,if_pos (by simp[c]),ae (by omega)];exact⟨rfl,by simp;omega⟩)
  k [] (by omega) (by simp)
 rw[this.1,fe];rfl
theorem DD (k:Nat) (hk:1000000000000≤k) (l:List GOcc) (p:GOcc→Bool) (hl:l.length≤40000000000) (hf:ez l) (x:GOcc) (t:List GOcc):aE.l1 k l (l.map p) (x::t) k [] 0=some (l.filter fun e=> !(p e&&decide (bq e x=0))):=by
 have:=cf l (fun s e=>if p e=true then(if bq e x=0 then some s else(req ((s.length+1) * 40≤140737488355328) (some (s++[e])))) else(req ((s.length+1) * 40≤140737488355328) (some (s++[e])))) (aE.l1 k l (l.map p) (x::t)) (fun s e=>if(!(p e&&decide (bq e x=0)))=true then s++[e] else s) (fun i s=>s.length≤i)
  (fun n s=>by rw[aE.l1,if_neg (by omega)])
  (fun n s i h=>by
   rw[aE.l1,if_pos (by omega),ae (by omega),Int.toNat_natCast,List.getElem?_map,List.getElem?_eq_getElem h]
   simp only[Option.map_some,Option.bind_some]
   rw[wrS i (by omega)]
   split
   ·rw[ae (by omega),ae (by omega),ae (by omega),ae (by omega)]
    simp only[List.getElem?_cons_zero,Option.bind_some,zl _ x (hf _ (List.getElem_mem h)) k hk]
    by_cases c:bq l[i] x=0
    ·rw[if_pos (by simpa using c),if_pos c];rfl
    ·rw[if_neg (by simpa using c),if_neg c,ae (by omega),ae (by omega)];unfold req;split <;> rfl
   ·rw[ae (by omega),ae (by omega)];unfold req;split <;> rfl)
  (fun i s h hI=>by
   by_cases c:p l[i]=true
   ·by_cases c2:bq l[i] x=0
    ·rw[if_pos c,if_pos c2,if_neg (by simp[c,c2])];exact⟨rfl,by omega⟩
    ·rw[if_pos c,if_neg c2,if_pos (by simp[c2]),ae (by omega)];exact⟨rfl,by simp;omega⟩
   ·rw[if_neg c,if_pos (by simp[c]),ae (by omega)];exact⟨rfl,by simp;omega⟩)
  k [] (by omega) (by simp)
 rw[this.1,fe];rfl
theorem Dr (k:Nat) (hk:1000000000000≤k) (mode:Int) (l:List GOcc) (p:GOcc→Bool) (hl:l.length≤40000000000) (hf:ez l) :
  aE.f k mode l (l.map p)=some (mO mode l p,l):=by
 unfold aE.f mO
 rw[DO k hk l p hl]
 simp only[Option.bind_some]
 have hlen:(l.filter p).length≤l.length:=List.length_filter_le _ _
 generalize hs:l.filter p=s at hlen⊢
 by_cases h0:s.length=0
 ·rw[if_pos (by omega)]
  have e:s=[]:=List.length_eq_zero_iff.1 h0
  subst e
  simp
 rw[if_neg (by omega)]
 by_cases m0:mode=0
 ·subst m0
  simp
 rw[if_neg m0]
 by_cases m1:mode=1
 ·obtain⟨j,hj⟩:∃j,s.length=j+1:=⟨s.length-1,by omega⟩
  have e:IntKind.wrap .i64 (((s.length:Nat):Int)-1)=(j:Int):=by rw[hj];exact wrP j (by omega)
  rw[if_pos m1,if_pos m1,e,ae (by omega),ae (by omega),ae (by omega),Int.toNat_natCast,show s.length-1=j by omega,List.take_of_length_le (by rw[List.length_drop];omega)]
 rw[if_neg m1,if_neg m1]
 by_cases m2:mode=2
 ·rw[if_pos m2,if_pos m2,ae (by omega),ae (by omega),ae (by omega)]
  cases s with
  |nil=>simp at h0
  |cons x t=>
   rw[DD k hk l p hl hf x t]
   rfl
 rw[if_neg m2,if_neg m2,D9 k hk l p hl]
 rfl
def De (mode:Int) (l mid b:List GOcc):List GOcc:=b.foldl (fun s o=>bd s (d9 mode o (l.filter (dF mid o)))) []
def bJ (mode:Int) (l mid a b c:List GOcc):List GOcc×List GOcc×List GOcc:=(bd l a,bd mid c,De mode l mid b)
theorem pN (k:Nat) (hk:1000000000000≤k) (mode:Int) (sp:ax) (a b c:List GOcc) (m n:Nat) (hm:m≤40000000000) (hn2:n≤40000000000) (hnm:n * m≤40000000000) (h1:Ok m sp.Left) (h2:Ok m sp.Mid) (ha:Ids a) (hb:Ids b) (hc:Ids c) (na:a.length≤40000000000) (nb:b.length≤n) (nc:c.length≤40000000000) :
  bH.f k sp mode a b c=some (⟨(bJ mode sp.Left sp.Mid a b c).1,(bJ mode sp.Left sp.Mid a b c).2.1⟩,(bJ mode sp.Left sp.Mid a b c).2.2)∧Ok (m+a.length) (bJ mode sp.Left sp.Mid a b c).1∧Ok (m+c.length) (bJ mode sp.Left sp.Mid a b c).2.1∧Ok (n * m) (bJ mode sp.Left sp.Mid a b c).2.2:=by
 have q1:=h1.2.2
 have q2:=h2.2.2
 have:=cf b (fun s e=>(ep.f k sp e).bind fun x38=>((aK.f k mode e x38).bind fun x41=>aO.f k s x41.1)) (bH.l0 k sp mode b) (fun s o=>bd s (d9 mode o (sp.Left.filter (dF sp.Mid o)))) (fun i s=>Ok (i * m) s)
  (fun n s=>by rw[bH.l0,if_neg (by omega)])
  (fun n s i h=>by
   rw[bH.l0,if_pos (by omega),ae (by omega),Int.toNat_natCast,List.getElem?_eq_getElem h]
   simp only[Option.bind_some,Option.bind_assoc]
   rw[wrS i (by omega)])
  (fun i s h hI=>by
   have ho:=hb _ (List.getElem_mem h)
   have hbm:i * m≤40000000000:=Nat.le_trans (Nat.mul_le_mul_right _ (by omega)) hnm
   have hf:=h1.filter (dF sp.Mid b[i])
   have hfo:=hf.found (mode:=mode) ho
   have:=hI.2.2;have:=hf.2.2;have:=hfo.2.2
   refine⟨?_,?_⟩
   ·rw[AC k hk sp _ (by omega) (by omega)]
    simp only[Option.bind_some]
    rw[mM k hk mode _ _ (by omega) hf.2.1 ho]
    simp only[Option.bind_some]
    rw[bV k hk _ _ (by omega) hI.2.1.few hfo.2.1.few hI.1]
   ·rw[Nat.succ_mul]
    exact hI.merge hfo)
  k [] (by omega) (by simpa using Ok.nil 0)
 refine⟨?_,⟨cL h1.1,ib h1.2.1 ha,Nat.le_trans (cJ _ _) (by omega)⟩,⟨cL h2.1,ib h2.2.1 hc,Nat.le_trans (cJ _ _) (by omega)⟩,this.2.mono (Nat.mul_le_mul_right _ nb)⟩
 unfold bH.f
 rw[this.1]
 simp only[Option.bind_some]
 rw[bV k hk _ _ (by omega) h1.2.1.few ha.few h1.1]
 simp only[Option.bind_some]
 rw[bV k hk _ _ (by omega) h2.2.1.few hc.few h2.1]
 rfl
theorem AD (k:Nat) (hk:1000000000000≤k) (mode:Int) (sp:ax) (a b c:List GOcc) (m:Nat) (hm:m≤20000) (h1:Ok m sp.Left) (h2:Ok m sp.Mid) (ha:Ids a) (hb:Ids b) (hc:Ids c) (na:a.length≤100) (nb:b.length≤100) (nc:c.length≤100) :
  bH.f k sp mode a b c=some (⟨(bJ mode sp.Left sp.Mid a b c).1,(bJ mode sp.Left sp.Mid a b c).2.1⟩,(bJ mode sp.Left sp.Mid a b c).2.2)∧Ok (m+a.length) (bJ mode sp.Left sp.Mid a b c).1∧Ok (m+c.length) (bJ mode sp.Left sp.Mid a b c).2.1∧Ok (100 * m) (bJ mode sp.Left sp.Mid a b c).2.2:=
 pN k hk mode sp a b c m 100 (by omega) (by omega) (by omega) h1 h2 ha hb hc (by omega) nb (by omega)
theorem xa (k:Nat) (hk:1000000000000≤k) (mode:Int) (sp:ax) (a b c:List GOcc) (m n:Nat) (hm:m≤40000000000) (hn2:n≤40000000000) (hnm:n * m≤40000000000) (h1:Ok m sp.Left) (h2:Ok m sp.Mid) (ha:Ids a) (hb:Ids b) (hc:Ids c) (na:a.length≤40000000000) (nb:b.length≤n) (nc:c.length≤40000000000) :
  dq.f k mode sp a b c=some (⟨(bJ mode sp.Left sp.Mid a b c).1,(bJ mode sp.Left sp.Mid a b c).2.1⟩,(bJ mode sp.Left sp.Mid a b c).2.2):=by
 have q1:=h1.2.2
 have q2:=h2.2.2
 have:=dM (fun s:List GOcc=>(sp.Left,s)) b (fun s e=>(aZ.f k mode (mO mode sp.Left (dF sp.Mid e)) e).bind fun x63=>aU.f k s x63) (fun n s i=>dq.l0 k mode sp b n sp.Left s i) (fun s o=>bd s (d9 mode o (sp.Left.filter (dF sp.Mid o)))) (fun i s=>Ok (i * m) s)
  (fun n s=>by rw[dq.l0,if_neg (by omega)])
  (fun n s i h=>by
   rw[dq.l0,if_pos (by omega),ae (by omega),Int.toNat_natCast,List.getElem?_eq_getElem h]
   simp only[Option.bind_some,Option.bind_assoc]
   rw[wB k hk ⟨sp.Left,sp.Mid⟩ _ (show sp.Left.length≤40000000000 by omega) (show sp.Mid.length≤40000000000 by omega)]
   simp only[Option.bind_some]
   rw[Dr k hk mode _ _ (by omega) h1.2.1.few]
   simp only[Option.bind_some]
   rw[ae trivial,ae (by omega),wrS i (by omega)])
  (fun i s h hI=>by
   have ho:=hb _ (List.getElem_mem h)
   have hbm:i * m≤40000000000:=Nat.le_trans (Nat.mul_le_mul_right _ (by omega)) hnm
   have hf:=h1.filter (dF sp.Mid b[i])
   have hfo:=hf.found (mode:=mode) ho
   have:=hI.2.2;have:=hf.2.2;have:=hfo.2.2
   refine⟨?_,?_⟩
   ·rw[rJ k hk mode _ _ _ (by omega) h1.2.1 ho]
    simp only[Option.bind_some]
    rw[dV k hk _ _ (by omega) hI.2.1.few hfo.2.1.few]
   ·rw[Nat.succ_mul]
    exact hI.merge hfo)
  k [] (by omega) (by simpa using Ok.nil 0)
 unfold dq.f
 rw[this.1]
 simp only[Option.bind_some]
 rw[dV k hk _ _ (by omega) h1.2.1.few ha.few]
 simp only[Option.bind_some]
 rw[dV k hk _ _ (by omega) h2.2.1.few hc.few]
 rfl
def hit (t:Int) (l:List GOcc):Bool:=l.any fun x=>x.To==t
def bC (ls:List (List GOcc)):List Int:=((List.range' 1 2000).filter fun t:Nat=>ls.any (hit (t:Int))).map fun t:Nat=>(t:Int)
theorem Df {α β:Type} (f:α→β) (l:List α) (acc:List β):l.foldl (fun s e=>s++[f e]) acc=acc++l.map f:=by
 induction l generalizing acc with
 |nil=>simp
 |cons x l ih=>rw[List.foldl_cons,ih];simp
theorem Cj (ls:List (List GOcc)) (acc:List Int):ls.foldl (fun s l=>s++l.map (·.To)) acc=acc++(ls.map fun l=>l.map (·.To)).flatten:=by
 induction ls generalizing acc with
 |nil=>simp
 |cons x l ih=>rw[List.foldl_cons,ih];simp
theorem t3_eq (k:Nat) (hk:1000000000000≤k) (l:List GOcc) (acc:List Int) (hl:l.length≤1000) (ha:acc.length≤100000):bn.l3 k l k acc 0=some (acc++l.map (·.To)):=by
 have:=cf l (fun s e=>req ((s.length+1) * 8≤140737488355328) (some (s++[e.To]))) (bn.l3 k l) (fun s e=>s++[e.To]) (fun i s=>s.length≤100000+i)
  (fun n s=>by rw[bn.l3,if_neg (by omega)])
  (fun n s i h=>by
   rw[bn.l3,if_pos (by omega),ae (by omega),Int.toNat_natCast,List.getElem?_eq_getElem h]
   simp only[Option.bind_some]
   rw[wrS i (by omega)]
   unfold req;split <;> rfl)
  (fun i s h hI=>⟨by rw[ae (by omega)],by simp;omega⟩) k acc (by omega) (by omega)
 rw[this.1,Df]
theorem t2_eq (k:Nat) (hk:1000000000000≤k) (ls:List (List GOcc)) (hn:ls.length≤10) (hl:∀l∈ls,l.length≤1000):bn.l2 k ls k [] 0=some (ls.map fun l=>l.map (·.To)).flatten∧(ls.map fun l=>l.map (·.To)).flatten.length≤10000:=by
 have:=cf ls (fun s e=>bn.l3 k e k s 0) (bn.l2 k ls) (fun s l=>s++l.map (·.To)) (fun i s=>s.length≤1000 * i)
  (fun n s=>by rw[bn.l2,if_neg (by omega)])
  (fun n s i h=>by
   rw[bn.l2,if_pos (by omega),ae (by omega),Int.toNat_natCast,List.getElem?_eq_getElem h]
   simp only[Option.bind_some]
   rw[wrS i (by omega)])
  (fun i s h hI=>by
   have:=hl _ (List.getElem_mem h)
   exact⟨t3_eq k hk _ _ this (by omega),by simp;omega⟩) k [] (by omega) (by simp)
 rw[Cj,List.nil_append] at this
 exact⟨this.1,by have:=this.2;omega⟩
theorem hM (ls:List (List GOcc)):Up (bC ls):=by
 unfold bC
 refine List.pairwise_map.2 (List.Pairwise.sublist List.filter_sublist ?_)
 exact List.Pairwise.imp (fun h=>by omega) (List.pairwise_lt_range' (s:=1) (n:=2000))
theorem eG {ls:List (List GOcc)} {t:Int}:t∈bC ls↔(1≤t∧t≤2000)∧∃l∈ls,∃o∈l,o.To=t:=by
 unfold bC
 simp only[List.mem_map,List.mem_filter,List.mem_range'_1,List.any_eq_true,hit,beq_iff_eq]
 constructor
 ·rintro⟨a,⟨h1,l,h2,o,h3,h4⟩,rfl⟩
  exact⟨by omega,l,h2,o,h3,h4⟩
 ·rintro⟨h1,l,h2,o,h3,h4⟩
  exact⟨t.toNat,⟨by omega,l,h2,o,h3,by omega⟩,by omega⟩
theorem yc (k:Nat) (hk:1000000000000≤k) (ls:List (List GOcc)) (hn:ls.length≤10) (hl:∀l∈ls,l.length≤1000) (ht:∀l∈ls,∀o∈l,1≤o.To∧o.To≤2000):bn.f k ls=some (bC ls):=by
 obtain⟨a,b⟩:=t2_eq k hk ls hn hl
 unfold bn.f gG.f dn.f
 rw[a]
 simp only[Option.bind_some]
 have e:(ls.map fun l=>l.map (·.To)).flatten.mergeSort (fun x y=>decide (x≤y))=mR (ls.map fun l=>l.map (·.To)).flatten:=rfl
 have l3:=nK (ls.map fun l=>l.map (·.To)).flatten
 rw[ae (by omega),e]
 simp only[Option.bind_some]
 rw[ae l3,ae (by omega)]
 simp only[Option.bind_some,Option.some.injEq]
 refine lX (oQ (tH _)) (hM ls) fun t=>?_
 rw[m8,rb,eG]
 simp only[List.mem_flatten,List.mem_map]
 constructor
 ·rintro⟨_,⟨l,h1,rfl⟩,h2⟩
  obtain⟨o,h3,rfl⟩:=List.mem_map.1 h2
  exact⟨ht l h1 o h3,l,h1,o,h3,rfl⟩
 ·rintro⟨_,l,h1,o,h2,rfl⟩
  exact⟨_,⟨l,h1,rfl⟩,List.mem_map.2 ⟨o,h2,rfl⟩⟩
theorem Dt {α σ τ:Type} (ret:σ→τ) (l:List α) (L:Nat→σ→Int→Option τ) (g:σ→α→σ) (Inv:Nat→σ→Prop)
  (hend:∀n s,L (n+1) s (l.length:Int)=some (ret s))
  (hstep:∀n s (i:Nat) (h:i<l.length),Inv i s→L (n+1) s (i:Int)=L n (g s l[i]) ((i+1:Nat):Int)∧Inv (i+1) (g s l[i])) :
  ∀(d i n:Nat) (s:σ),i+d=l.length→d<n→Inv i s→L n s (i:Int)=some (ret ((l.drop i).foldl g s))∧Inv l.length ((l.drop i).foldl g s):=by
 intro d
 induction d with
 |zero=>
  intro i n s hi hn hI
  obtain⟨n,rfl⟩:∃m,n=m+1:=⟨n-1,by omega⟩
  have e:i=l.length:=by omega
  subst e
  rw[hend,List.drop_length]
  exact⟨rfl,hI⟩
 |succ d ih=>
  intro i n s hi hn hI
  obtain⟨n,rfl⟩:∃m,n=m+1:=⟨n-1,by omega⟩
  have hlt:i<l.length:=by omega
  obtain⟨h1,h2⟩:=hstep n s i hlt hI
  rw[h1,List.drop_eq_getElem_cons hlt]
  exact ih (i+1) n _ (by omega) (by omega) h2
theorem qw {α σ τ:Type} (ret:σ→τ) (l:List α) (L:Nat→σ→Int→Option τ) (g:σ→α→σ) (Inv:Nat→σ→Prop)
  (hend:∀n s,L (n+1) s (l.length:Int)=some (ret s))
  (hstep:∀n s (i:Nat) (h:i<l.length),Inv i s→L (n+1) s (i:Int)=L n (g s l[i]) ((i+1:Nat):Int)∧Inv (i+1) (g s l[i])) (n:Nat) (s:σ) (hn:l.length<n) (hI:Inv 0 s) :
  L n s 0=some (ret (l.foldl g s))∧Inv l.length (l.foldl g s):=by
 have:=Dt ret l L g Inv hend hstep l.length 0 n s (by omega) hn hI
 simpa using this
def atM (l:List GOcc) (t:Int):List GOcc:=l.filter fun x=>x.To==t
theorem im (k:Nat) (hk:1000000000000≤k) (l:List GOcc) (t:Int) (hl:l.length≤40000000000):gP.f k l t=some (atM l t):=by
 unfold gP.f
 rw[m7 k hk (fun y0=>mc.f y0 t) (fun x=>x.To==t) l hl (fun x hx=>rfl)];rfl
theorem iJ (l:List GOcc) (t:Int):(atM l t).length≤l.length:=List.length_filter_le _ _
theorem iD {l:List GOcc} (h:Ids l) (t:Int):Ids (atM l t):=fun x hx=>h x (List.mem_filter.1 hx).1
abbrev Two:=List GOcc×List GOcc
/-- what a step leaves gd, in bounds -/
def rf (f:Two→List GOcc→List GOcc→Two×List GOcc):Prop:=∀(m:Nat) (p:Two) (l r:List GOcc),m≤19000→Ok m p.1→Ok m p.2→Ids l→Ids r→l.length≤40→r.length≤40→
 Ok (m+100) (f p l r).1.1∧Ok (m+100) (f p l r).1.2∧Ok 2000000 (f p l r).2
def iS (mode:Int) (p:Two) (l r:List GOcc):Two×List GOcc:=(((gT mode p.1 l r).1,p.2),(gT mode p.1 l r).2)
def iR (mode:Int) (p:Two) (l r:List GOcc):Two×List GOcc:=(((eN mode p.1 p.2 l r).1,(eN mode p.1 p.2 l r).2.1),(eN mode p.1 p.2 l r).2.2)
theorem vw (mode:Int):rf (iS mode):=fun m p l r hm h1 h2 hl hr nl nr=>by
 have:=(B9 1000000000000 (Nat.le_refl _) mode ⟨p.1,p.2⟩ l r m (by omega) h1 hl hr (by omega) (by omega)).2
 exact⟨this.1.mono (by omega),h2.mono (by omega),this.2.mono (by omega)⟩
theorem vo (mode:Int):rf (iR mode):=fun m p l r hm h1 h2 hl hr nl nr=>by
 have:=(C1 1000000000000 (Nat.le_refl _) mode ⟨p.1,p.2⟩ l r m (by omega) h1 h2 hl hr (by omega)).2
 exact⟨this.1,this.2.1,this.2.2.mono (by omega)⟩
def oV (f:Two→List GOcc→List GOcc→List GOcc→Two×List GOcc):Prop:=∀(m:Nat) (p:Two) (a b c:List GOcc),m≤19000→Ok m p.1→Ok m p.2→Ids a→Ids b→Ids c→a.length≤40→b.length≤40→c.length≤40→
 Ok (m+100) (f p a b c).1.1∧Ok (m+100) (f p a b c).1.2∧Ok 2000000 (f p a b c).2
def jk (mode:Int) (p:Two) (a b c:List GOcc):Two×List GOcc:=(((ew mode p.1 p.2 a b c).1,(ew mode p.1 p.2 a b c).2.1),(ew mode p.1 p.2 a b c).2.2)
def gx (mode:Int) (p:Two) (a b c:List GOcc):Two×List GOcc:=(((bJ mode p.1 p.2 a b c).1,(bJ mode p.1 p.2 a b c).2.1),(bJ mode p.1 p.2 a b c).2.2)
theorem vi (mode:Int):oV (jk mode):=fun m p a b c hm h1 h2 ha hb hc na nb nc=>by
 have:=(B8 1000000000000 (Nat.le_refl _) mode ⟨p.1,p.2⟩ a b c m (by omega) h1 h2 ha hb hc (by omega) (by omega) (by omega)).2
 exact⟨this.1.mono (by omega),this.2.1.mono (by omega),this.2.2.mono (by omega)⟩
theorem tf (mode:Int):oV (gx mode):=fun m p a b c hm h1 h2 ha hb hc na nb nc=>by
 have:=(AD 1000000000000 (Nat.le_refl _) mode ⟨p.1,p.2⟩ a b c m (by omega) h1 h2 ha hb hc (by omega) (by omega) (by omega)).2
 exact⟨this.1.mono (by omega),this.2.1.mono (by omega),this.2.2.mono (by omega)⟩
theorem sk:∀l:List Int,(uniq l).length≤l.length
 |[]=>by simp[uniq]
 |[x]=>by simp[uniq]
 |x::y::l=>by
  have:=sk (y::l)
  unfold uniq
  split
  ·simp only[List.length_cons] at this⊢;omega
  ·simp only[List.length_cons] at this⊢;omega
theorem AZ {ls:List (List GOcc)} (ht:∀l∈ls,∀o∈l,1≤o.To∧o.To≤2000):uniq (mR (ls.map fun l=>l.map (·.To)).flatten)=bC ls:=by
 refine lX (oQ (tH _)) (hM ls) fun t=>?_
 rw[m8,rb,eG]
 simp only[List.mem_flatten,List.mem_map]
 constructor
 ·rintro⟨_,⟨l,h1,rfl⟩,h2⟩
  obtain⟨o,h3,rfl⟩:=List.mem_map.1 h2
  exact⟨ht l h1 o h3,l,h1,o,h3,rfl⟩
 ·rintro⟨_,l,h1,o,h2,rfl⟩
  exact⟨_,⟨l,h1,rfl⟩,List.mem_map.2 ⟨o,h2,rfl⟩⟩
theorem ud {ls:List (List GOcc)} (ht:∀l∈ls,∀o∈l,1≤o.To∧o.To≤2000):(bC ls).length≤(ls.map fun l=>l.map (·.To)).flatten.length:=by
 rw[←AZ ht]
 have:=sk (mR (ls.map fun l=>l.map (·.To)).flatten)
 rw[nK] at this
 exact this
def dk {σ:Type} (f:σ→Int→σ×List GOcc) (s:σ×List GOcc) (t:Int):σ×List GOcc:=((f s.1 t).1,bd s.2 (f s.1 t).2)
def fG (f:Two→List GOcc→List GOcc→Two×List GOcc) (a b:List GOcc):List GOcc:=((bC [a,b]).foldl (dk fun p t=>f p (atM a t) (atM b t)) (([],[]),[])).2
def fH (f:Two→List GOcc→List GOcc→List GOcc→Two×List GOcc) (a b c:List GOcc):List GOcc:=((bC [a,b,c]).foldl (dk fun p t=>f p (atM a t) (atM b t) (atM c t)) (([],[]),[])).2
def fB (i:Nat) (s:Two×List GOcc):Prop:=Ok (100 * i) s.1.1∧Ok (100 * i) s.1.2∧Ok (2000000 * i) s.2
theorem fB.start:fB 0 (([],[]),[]):=⟨Ok.nil _,Ok.nil _,Ok.nil _⟩
theorem fB.pair {f:Two→List GOcc→List GOcc→Two×List GOcc} (hf:rf f) {a b:List GOcc} (ha:aP a=true) (hb:aP b=true) {i:Nat} (hi:i≤120) {s:Two×List GOcc} {t:Int} (h:fB i s) :
  fB (i+1) (dk (fun p t=>f p (atM a t) (atM b t)) s t)∧Ok 2000000 (f s.1 (atM a t) (atM b t)).2:=by
 have:=bp ha;have:=bp hb;have:=iJ a t;have:=iJ b t
 have q:=hf (100 * i) s.1 (atM a t) (atM b t) (by omega) h.1 h.2.1 (iD (fN ha) t) (iD (fN hb) t) (by omega) (by omega)
 exact⟨⟨q.1.mono (by omega),q.2.1.mono (by omega),(h.2.2.merge q.2.2).mono (by omega)⟩,q.2.2⟩
theorem fB.span {f:Two→List GOcc→List GOcc→List GOcc→Two×List GOcc} (hf:oV f) {a b c:List GOcc} (ha:aP a=true) (hb:aP b=true) (hc:aP c=true) {i:Nat} (hi:i≤120) {s:Two×List GOcc} {t:Int} (h:fB i s) :
  fB (i+1) (dk (fun p t=>f p (atM a t) (atM b t) (atM c t)) s t)∧Ok 2000000 (f s.1 (atM a t) (atM b t) (atM c t)).2:=by
 have:=bp ha;have:=bp hb;have:=bp hc;have:=iJ a t;have:=iJ b t;have:=iJ c t
 have q:=hf (100 * i) s.1 (atM a t) (atM b t) (atM c t) (by omega) h.1 h.2.1 (iD (fN ha) t) (iD (fN hb) t) (iD (fN hc) t) (by omega) (by omega) (by omega)
 exact⟨⟨q.1.mono (by omega),q.2.1.mono (by omega),(h.2.2.merge q.2.2).mono (by omega)⟩,q.2.2⟩
theorem jL {l:List GOcc} (h:aP l=true):∀o∈l,1≤o.To∧o.To≤2000:=fun o ho=>by have:=mH h o ho;omega
theorem uV {a b:List GOcc} (ha:aP a=true) (hb:aP b=true):(bC [a,b]).length≤80:=by
 have q:=ud (ls:=[a,b]) (fun l hl=>by
  simp only[List.mem_cons,List.not_mem_nil,or_false] at hl
  rcases hl with rfl|rfl
  ·exact jL ha
  ·exact jL hb)
 have:=bp ha;have:=bp hb
 simp at q
 omega
theorem uB {a b c:List GOcc} (ha:aP a=true) (hb:aP b=true) (hc:aP c=true):(bC [a,b,c]).length≤120:=by
 have q:=ud (ls:=[a,b,c]) (fun l hl=>by
  simp only[List.mem_cons,List.not_mem_nil,or_false] at hl
  rcases hl with rfl|rfl|rfl
  ·exact jL ha
  ·exact jL hb
  ·exact jL hc)
 have:=bp ha;have:=bp hb;have:=bp hc
 simp at q
 omega
theorem nL {α σ:Type} (g:σ→α→σ) (Inv:Nat→σ→Prop):∀(l:List α) (i:Nat) (s:σ),(∀j s (h:j<l.length),Inv (i+j) s→Inv (i+j+1) (g s l[j]))→Inv i s→Inv (i+l.length) (l.foldl g s)
 |[],i,s,_,h=>h
 |x::l,i,s,hs,h=>by
  have h1:=hs 0 s (by simp) h
  have:=nL g Inv l (i+1) (g s x) (fun j s' hj hI=>by
   have:=hs (j+1) s' (by simp;omega) (by rw[show i+(j+1)=i+1+j by omega];exact hI)
   rw[show i+(j+1)+1=i+1+j+1 by omega] at this
   exact this) h1
  rw[List.foldl_cons,List.length_cons,show i+(l.length+1)=i+1+l.length by omega]
  exact this
theorem oU {f:Two→List GOcc→List GOcc→Two×List GOcc} (hf:rf f) {a b:List GOcc} (ha:aP a=true) (hb:aP b=true):Ok 200000000 (fG f a b):=by
 have hl:=uV ha hb
 have:=nL (dk fun p t=>f p (atM a t) (atM b t)) fB (bC [a,b]) 0 (([],[]),[]) (fun j s h hI=>(hI.pair hf ha hb (by omega)).1) fB.start
 exact this.2.2.mono (by omega)
theorem oI {f:Two→List GOcc→List GOcc→List GOcc→Two×List GOcc} (hf:oV f) {a b c:List GOcc} (ha:aP a=true) (hb:aP b=true) (hc:aP c=true):Ok 300000000 (fH f a b c):=by
 have hl:=uB ha hb hc
 have:=nL (dk fun p t=>f p (atM a t) (atM b t) (atM c t)) fB (bC [a,b,c]) 0 (([],[]),[]) (fun j s h hI=>(hI.span hf ha hb hc (by omega)).1) fB.start
 exact this.2.2.mono (by omega)
def fv (f:Two→List GOcc→List GOcc→Two×List GOcc) (a b:List GOcc):List GOcc×Bool:=if aP a=true∧aP b=true then iL (fG f a b) else([],false)
def fu (f:Two→List GOcc→List GOcc→List GOcc→Two×List GOcc) (a b c:List GOcc):List GOcc×Bool:=if aP a=true∧aP b=true∧aP c=true then iL (fH f a b c) else([],false)
theorem nV (mode:Int):dr.f mode=some (decide (0≤mode)&&decide (mode≤4))∧gC.f mode=some (decide (0≤mode)&&decide (mode≤4)):=by
 refine⟨?_,?_⟩
 ·unfold dr.f
  rw[pF];rfl
 ·unfold gC.f
  split
  ·have:¬0≤mode:=by omega
   simp[this]
  ·have:0≤mode:=by omega
   simp[this]
   omega
theorem nX {mode:Int} (hmo:0≤mode∧mode≤4):dr.f mode=some true∧gC.f mode=some true:=by
 obtain⟨a,b⟩:=nV mode
 rw[a,b]
 simp[hmo]
theorem mL:aP []=true:=by decide
theorem fP:dC []:=⟨by simp,fun x hx=>by simp at hx⟩
theorem zX (k:Nat) (hk:1000000000000≤k) (mode:Int) (hmo:0≤mode∧mode≤4) (a b:List GOcc) (ha:dC a) (hb:dC b):gt.f k mode ⟨[],[]⟩ a b=some (aP a&&aP b):=by
 unfold gt.f lH.f
 rw[(nX hmo).1]
 simp only[Option.bind_some]
 rw[if_pos trivial,fJ k hk [] fP,mL]
 simp only[Option.bind_some]
 rw[if_pos trivial]
 simp only[Option.bind_some]
 rw[if_pos trivial,fJ k hk a ha,fJ k hk b hb]
 simp only[Option.bind_some]
 cases aP a <;> rfl
/-- the program's step is f -/
def Does (k:Nat) (mode:Int) (f:Two→List GOcc→List GOcc→Two×List GOcc) (g:aB→Int→List GOcc→List GOcc→Option (aB×List GOcc)):Prop:=
 ∀(m:Nat) (p:Two) (l r:List GOcc),m≤19000→Ok m p.1→Ok m p.2→Ids l→Ids r→l.length≤40→r.length≤40→g ⟨p.1,p.2⟩ mode l r=some (⟨(f p l r).1.1,(f p l r).1.2⟩,(f p l r).2)
def Does3 (k:Nat) (mode:Int) (f:Two→List GOcc→List GOcc→List GOcc→Two×List GOcc) (g:ax→Int→List GOcc→List GOcc→List GOcc→Option (ax×List GOcc)):Prop:=
 ∀(m:Nat) (p:Two) (a b c:List GOcc),m≤19000→Ok m p.1→Ok m p.2→Ids a→Ids b→Ids c→a.length≤40→b.length≤40→c.length≤40→g ⟨p.1,p.2⟩ mode a b c=some (⟨(f p a b c).1.1,(f p a b c).1.2⟩,(f p a b c).2)
theorem wF {o:GOcc}:∀{l:List GOcc},(∀x∈l,bh x o=true)→cq l o=l++[o]
 |[],_=>rfl
 |y::l,h=>by
  unfold cq
  rw[if_pos (h y (by simp)),wF fun x hx=>h x (by simp[hx])]
  rfl
theorem Ed {l:List GOcc} {o:GOcc} (h:Asc (l++[o])):∀x∈l,bh x o=true:=fun x hx=>(List.pairwise_append.1 h).2.2 x hx o (by simp)
def dz (n:Int) (o:GOcc):GOcc:=⟨o.From,o.To+n,o.Ids⟩
theorem lQ (a b:GOcc):bh a b=true↔a.To<b.To∨(a.To=b.To∧(a.From<b.From∨(a.From=b.From∧cP a.Ids b.Ids<0))):=by
 unfold bh
 rw[decide_eq_true_eq,wM]
theorem wu (n:Int) (a b:GOcc):bh (dz n a) (dz n b)=bh a b:=by
 rw[Bool.eq_iff_iff,lQ,lQ]
 unfold dz
 dsimp only
 constructor
 ·rintro(h|⟨h,h2⟩)
  ·exact .inl (by omega)
  ·exact .inr ⟨by omega,h2⟩
 ·rintro(h|⟨h,h2⟩)
  ·exact .inl (by omega)
  ·exact .inr ⟨by omega,h2⟩
def kq (n till:Int) (o:GOcc):Bool:=decide (o.To+n≤till)&&decide (o.To+n≤2000)
def dE (n till:Int) (l:List GOcc):List GOcc:=(l.filter (kq n till)).map (dz n)
theorem n6 {n till:Int} {l:List GOcc} (h:Asc l):Asc (dE n till l):=by
 unfold dE Asc
 rw[List.pairwise_map]
 refine List.Pairwise.imp ?_ (List.Pairwise.sublist List.filter_sublist h)
 intro a b hab
 rw[wu];exact hab
def pu (n till:Int) (l:List GOcc):List GOcc×Bool:=if aP l=true∧1≤n∧n≤20 then(dE n till l,true) else([],false)
theorem Ag (n till:Int) (l:List GOcc) (o:GOcc):dE n till (l++[o])=if kq n till o=true then dE n till l++[dz n o] else dE n till l:=by
 unfold dE
 by_cases h:kq n till o=true
 ·rw[if_pos h,List.filter_append,List.filter_cons_of_pos h];simp
 ·rw[if_neg h,List.filter_append,List.filter_cons_of_neg h];simp
theorem po (n till:Int) (l:List GOcc):(dE n till l).length≤l.length:=by unfold dE;rw[List.length_map];exact List.length_filter_le _ _
theorem wi {α:Type} (l:List α) (i:Nat) (h:i<l.length):l.take (i+1)=l.take i++[l[i]]:=by
 rw[List.take_add_one,List.getElem?_eq_getElem h];rfl
theorem Dq {n:Int} {o:GOcc} (h:Few o):Few (dz n o):=h
theorem BN {n till:Int} {l:List GOcc} (h:ez l):ez (dE n till l):=fun x hx=>by
 unfold dE at hx
 obtain⟨y,hy,rfl⟩:=List.mem_map.1 hx
 exact h y (List.mem_filter.1 hy).1
theorem vA (k:Nat) (hk:1000000000000≤k) (l:List GOcc) (n till:Int) (hn:1≤n∧n≤20) (h:aP l=true):cC.l0 k l n till k [] 0=some (dE n till l):=by
 have hl:=bp h
 have q:=qw (fun s:List GOcc=>s) l (cC.l0 k l n till) (fun s o=>if kq n till o=true then s++[dz n o] else s) (fun i s=>s=dE n till (l.take i)∧s.length≤i)
  (fun m s=>by rw[cC.l0,if_neg (by omega)])
  (fun m s i hi hI=>by
   have ho:=mH h _ (List.getElem_mem hi)
   have hf:Few l[i]:=by omega
   refine⟨?_,?_,?_⟩
   ·have c1:eh.f l[i] n=some (dz n l[i]):=by
     unfold eh.f
     rw[rY _ hf]
     simp only[Option.bind_some]
     rw[wr _ (by omega)];rfl
    rw[cC.l0,if_pos (by omega),ae (by omega),Int.toNat_natCast,List.getElem?_eq_getElem hi]
    simp only[Option.bind_some]
    rw[wr (l[i].To+n) (by omega),c1,wrS i (by omega)]
    simp only[Option.bind_some]
    unfold kq
    by_cases t:2000<till
    ·rw[if_pos t]
     by_cases u:2000<l[i].To+n
     ·rw[if_pos u,if_neg (by simp;omega)]
     ·rw[if_neg u,ae (by omega),if_pos (by simp;omega)]
    ·rw[if_neg t]
     by_cases u:till<l[i].To+n
     ·rw[if_pos u,if_neg (by simp;omega)]
     ·rw[if_neg u,ae (by omega),if_pos (by simp;omega)]
   ·rw[wi l i hi,Ag,←hI.1]
   ·split
    ·simp;omega
    ·omega)
  k [] (by omega) ⟨rfl,by simp⟩
 rw[q.1]
 have:=q.2.1
 simpa using this
theorem u9 (k:Nat) (hk:1000000000000≤k) (l:List GOcc) (n till:Int) (sl:dC l):cC.f k l n till=some (pu n till l):=by
 unfold cC.f pu
 rw[fJ k hk l sl]
 simp only[Option.bind_some]
 by_cases h:aP l=true
 ·rw[if_pos h,pF]
  simp only[Option.bind_some]
  by_cases hn:1≤n∧n≤20
  ·rw[if_pos (by simp[hn]),if_pos ⟨h,hn⟩,vA k hk l n till hn h];rfl
  ·rw[if_neg (by simpa using hn),if_neg (fun x=>hn x.2)]
 ·rw[if_neg h,if_neg (fun x=>h x.1)]
def bY (sym:Int):Nat→List GEv→List GOcc
 |_,[]=>[]
 |i,e::l=>if e.Sym=sym then⟨e.At,e.At,[(i:Int)]⟩::bY sym (i+1) l else bY sym (i+1) l
theorem xq (k:Nat) (x:GEx) (l:List GEv) (hl:l.length≤1000000):∀(d i n:Nat) (acc:List GOcc),i+d=l.length→d<n→acc.length≤i→aV.l1 k x l n acc (i:Int)=some (acc++bY x.Sym i (l.drop i)):=by
 intro d
 induction d with
 |zero=>
  intro i n acc hi hn ha
  obtain⟨n,rfl⟩:∃m,n=m+1:=⟨n-1,by omega⟩
  rw[aV.l1,if_neg (by omega),List.drop_eq_nil_of_le (by omega)]
  simp[bY]
 |succ d ih=>
  intro i n acc hi hn ha
  obtain⟨n,rfl⟩:∃m,n=m+1:=⟨n-1,by omega⟩
  have h:i<l.length:=by omega
  rw[aV.l1,if_pos (by omega),ae (by omega),Int.toNat_natCast,List.getElem?_eq_getElem h,List.drop_eq_getElem_cons h,bY]
  simp only[Option.bind_some]
  rw[wrS i (by omega)]
  by_cases c:l[i].Sym=x.Sym
  ·rw[if_pos c,if_pos c,ae (by omega),ih (i+1) n _ (by omega) (by omega) (by simp;omega)]
   simp
  ·rw[if_neg c,if_neg c,ih (i+1) n _ (by omega) (by omega) (by omega)]
theorem zJ (k:Nat) (hk:1000000000000≤k) (x:GEx) (l:List GEv) (hl:l.length≤1000000):aV.l1 k x l k [] 0=some (bY x.Sym 0 l):=by
 have:=xq k x l hl l.length 0 k [] (by omega) (by omega) (by simp)
 rw[show((0:Nat):Int)=0 from rfl,List.drop_zero,List.nil_append] at this
 exact this
def eM (l:List GEv):Int:=match l.getLast? with|some e=>e.At|none=>0
mutual
/-- how many nodes -/
def exN:GEx→Nat
 |⟨_,_,_,ks⟩=>1+cl ks
def cl:List GEx→Nat
 |[]=>0
 |x::xs=>exN x+cl xs
end
theorem eS:cl []=0:=by simp only[cl]
theorem cS (x:GEx) (xs:List GEx):cl (x::xs)=exN x+cl xs:=by simp only[cl]
theorem cK (e:GEx):exN e=1+cl e.Kids:=by cases e;simp only[exN]
theorem ga:∀l:List GEx,l.length≤cl l
 |[]=>by simp[eS]
 |x::xs=>by have:=ga xs;rw[cS,cK];simp only[List.length_cons];omega
theorem dQ {e:GEx}:∀{l:List GEx},e∈l→exN e≤cl l
 |x::xs,h=>by
  rw[cS]
  rcases List.mem_cons.1 h with rfl|h
  ·omega
  ·have:=dQ h;omega
mutual
theorem eC {P:GEx→Prop} (h:∀e:GEx,(∀x∈e.Kids,P x)→P e):∀e,P e
 |⟨a,b,c,ks⟩=>h ⟨a,b,c,ks⟩ (CK h ks)
theorem CK {P:GEx→Prop} (h:∀e:GEx,(∀x∈e.Kids,P x)→P e):∀l:List GEx,∀x∈l,P x
 |[],_,hx=>by simp at hx
 |y::ys,x,hx=>by
  rcases List.mem_cons.1 hx with e|hx
  ·rw[e];exact eC h y
  ·exact CK h ys x hx
end
def gK (a:Int):Int:=if a=1 then 0 else if a=7 then 1 else if a=2 then 2 else if a=3 then 2 else if a=4 then 2 else if a=5 then 3 else if a=6 then 3 else -1
theorem rC (a:Int):gA.f a=some (gK a):=by
 unfold gA.f gK
 repeat' split
 all_goals rfl
def gV (e:GEx):Bool:=decide (gK e.Kind=(e.Kids.length:Int))&&decide (0≤e.Sym)&&decide (e.Sym<5)&&(decide (e.Kind=1)||decide (e.Sym=0))&&(if e.Kind=7 then decide (1≤e.N)&&decide (e.N≤20) else decide (e.N=0))
mutual
def bx:GEx→Bool
 |⟨a,b,c,ks⟩=>gV ⟨a,b,c,ks⟩&&lA ks
def lA:List GEx→Bool
 |[]=>true
 |x::xs=>bx x&&lA xs
end
mutual
def exD:GEx→Nat
 |⟨_,_,_,ks⟩=>1+kQ ks
def kQ:List GEx→Nat
 |[]=>0
 |x::xs=>max (exD x) (kQ xs)
end
theorem qP (e:GEx):bx e=(gV e&&lA e.Kids):=by cases e;simp only[bx]
theorem oL (e:GEx):exD e=1+kQ e.Kids:=by cases e;simp only[exD]
theorem lG:∀l:List GEx,lA l=l.all bx
 |[]=>by simp only[lA];rfl
 |x::xs=>by simp only[lA,lG xs,List.all_cons]
theorem oF:∀(l:List GEx) (d:Nat),kQ l≤d↔∀x∈l,exD x≤d
 |[],d=>by simp[kQ]
 |x::xs,d=>by
  simp only[kQ,Nat.max_le,oF xs d,List.mem_cons]
  exact⟨fun h y hy=>hy.elim (fun e=>e▸h.1) (h.2 y),fun h=>⟨h x (.inl rfl),fun y hy=>h y (.inr hy)⟩⟩
/-- well formed, no deeper than d -/
def lN:Nat→GEx→Bool
 |0,_=>false
 |d+1,e=>gV e&&e.Kids.all (lN d)
theorem yC:∀(d:Nat) (e:GEx),lN d e=(decide (exD e≤d)&&bx e)
 |0,e=>by rw[oL];simp[lN]
 |d+1,e=>by
  rw[lN,qP,lG,oL]
  have h:e.Kids.all (lN d)=(decide (1+kQ e.Kids≤d+1)&&e.Kids.all bx):=by
   rw[Bool.eq_iff_iff]
   simp only[List.all_eq_true,Bool.and_eq_true,decide_eq_true_eq,yC d]
   constructor
   ·intro h
    refine⟨?_,fun x hx=>(h x hx).2⟩
    have:=(oF e.Kids d).2 fun x hx=>(h x hx).1
    omega
   ·rintro⟨h1,h2⟩ x hx
    exact⟨(oF e.Kids d).1 (by omega) x hx,h2 x hx⟩
  rw[h]
  cases gV e <;> cases decide (1+kQ e.Kids≤d+1) <;> rfl
theorem yK (k:Nat) (rec':GEx→Int→Option Bool) (e:GEx) (q:Int) (g:GEx→Bool) (hl:e.Kids.length<4611686018427387904) (H:∀x∈e.Kids,rec' x (IntKind.wrap .i64 (q-1))=some (g x)) :
  ∀(d n i:Nat),i+d=e.Kids.length→d<n→
   aC.l0 k rec' e q n (i:Int)=some (if(e.Kids.drop i).all g then .ok () else .error false)∧
   aC.l1 k rec' e q n (i:Int)=some (if(e.Kids.drop i).all g then .ok () else .error false)∧
   aC.l2 k rec' e q n (i:Int)=some (if(e.Kids.drop i).all g then .ok () else .error false)∧
   aC.l3 k rec' e q n (i:Int)=some (if(e.Kids.drop i).all g then .ok () else .error false):=by
 intro d
 induction d with
 |zero=>
  intro n i hi hn
  obtain⟨n,rfl⟩:∃m,n=m+1:=⟨n-1,by omega⟩
  rw[List.drop_eq_nil_of_le (by omega)]
  exact⟨by rw[aC.l0,if_neg (by omega)];rfl,by rw[aC.l1,if_neg (by omega)];rfl,by rw[aC.l2,if_neg (by omega)];rfl,by rw[aC.l3,if_neg (by omega)];rfl⟩
 |succ d ih=>
  intro n i hi hn
  obtain⟨n,rfl⟩:∃m,n=m+1:=⟨n-1,by omega⟩
  have hlt:i<e.Kids.length:=by omega
  obtain⟨i0,i1,i2,i3⟩:=ih n (i+1) (by omega) (by omega)
  rw[List.drop_eq_getElem_cons hlt,List.all_cons]
  refine⟨?_,?_,?_,?_⟩
  ·rw[aC.l0,if_pos (by omega),ae (by omega),Int.toNat_natCast,List.getElem?_eq_getElem hlt]
   simp only[Option.bind_some,H e.Kids[i] (List.getElem_mem hlt)]
   cases g e.Kids[i]
   ·rfl
   ·rw[if_pos rfl,wrS i (by omega),i0,Bool.true_and]
  ·rw[aC.l1,if_pos (by omega),ae (by omega),Int.toNat_natCast,List.getElem?_eq_getElem hlt]
   simp only[Option.bind_some,H e.Kids[i] (List.getElem_mem hlt)]
   cases g e.Kids[i]
   ·rfl
   ·rw[if_pos rfl,wrS i (by omega),i1,Bool.true_and]
  ·rw[aC.l2,if_pos (by omega),ae (by omega),Int.toNat_natCast,List.getElem?_eq_getElem hlt]
   simp only[Option.bind_some,H e.Kids[i] (List.getElem_mem hlt)]
   cases g e.Kids[i]
   ·rfl
   ·rw[if_pos rfl,wrS i (by omega),i2,Bool.true_and]
  ·rw[aC.l3,if_pos (by omega),ae (by omega),Int.toNat_natCast,List.getElem?_eq_getElem hlt]
   simp only[Option.bind_some,H e.Kids[i] (List.getElem_mem hlt)]
   cases g e.Kids[i]
   ·rfl
   ·rw[if_pos rfl,wrS i (by omega),i3,Bool.true_and]
theorem yX:∀(d:Nat) (e:GEx) (k:Nat),d≤5→exN e≤1048577→3 * exN e≤k→aC.f k e (d:Int)=some (lN d e)
 |0,e,k,hd,hs,hk=>by
  rw[cK] at hk
  obtain⟨k,rfl⟩:∃m,k=m+1:=⟨k-1,by omega⟩
  rw[aC.f,if_pos (by decide)];rfl
 |d+1,e,k,hd,hs,hk=>by
  rw[cK] at hk hs
  have hq:=ga e.Kids
  obtain⟨k,rfl⟩:∃m,k=m+1:=⟨k-1,by omega⟩
  have hw:IntKind.wrap .i64 (((d+1:Nat):Int)-1)=(d:Int):=wrP d (by omega)
  have H:∀x∈e.Kids,aC.f k x (IntKind.wrap .i64 (((d+1:Nat):Int)-1))=some (lN d x):=fun x hx=>by
   have:=dQ hx
   rw[hw];exact yX d x k (by omega) (by omega) (by omega)
  obtain⟨i0,i1,i2,i3⟩:=yK k (aC.f k) e ((d+1:Nat):Int) (lN d) (by omega) H e.Kids.length k 0 (by omega) (by omega)
  rw[show((0:Nat):Int)=0 from rfl,List.drop_zero] at i0 i1 i2 i3
  rw[aC.f,if_neg (by omega),rC]
  simp only[Option.bind_some,i0,i1,i2,i3,lN,gV]
  cases hA:e.Kids.all (lN d) <;> (repeat' split) <;> simp_all <;> omega
theorem z8 (k:Nat) (rec':GEx→Int→Option Int) (e:GEx) (q:Int) (hq:0<q) (hl:e.Kids.length<4611686018427387904) (H:∀x∈e.Kids,rec' x (IntKind.wrap .i64 (q-1))=some (exN x:Int)) :
  ∀(d n i:Nat) (s:Int),i+d=e.Kids.length→d<n→0≤s→s+cl (e.Kids.drop i)≤100000000→
   cv.l0 k rec' e q n s (i:Int)=some (s+cl (e.Kids.drop i)):=by
 intro d
 induction d with
 |zero=>
  intro n i s hi hn h0 h1
  obtain⟨n,rfl⟩:∃m,n=m+1:=⟨n-1,by omega⟩
  rw[cv.l0,if_neg (by omega),List.drop_eq_nil_of_le (by omega),eS];simp
 |succ d ih=>
  intro n i s hi hn h0 h1
  obtain⟨n,rfl⟩:∃m,n=m+1:=⟨n-1,by omega⟩
  have hlt:i<e.Kids.length:=by omega
  rw[List.drop_eq_getElem_cons hlt,cS] at h1⊢
  rw[cv.l0,if_pos (by omega),if_pos hq,ae (by omega),Int.toNat_natCast,List.getElem?_eq_getElem hlt]
  simp only[Option.bind_some,H e.Kids[i] (List.getElem_mem hlt)]
  push_cast at h1
  rw[wrS i (by omega),wr (s+_) (by omega),ih n (i+1) _ (by omega) (by omega) (by omega) (by omega)]
  congr 1;push_cast;omega
theorem yo:∀(d:Nat) (e:GEx) (k:Nat),d≤5→exD e≤d→exN e≤1048577→3 * exN e≤k→cv.f k e (d:Int)=some (exN e:Int)
 |0,e,k,_,hd,_,_=>by rw[oL] at hd;omega
 |d+1,e,k,hd5,hd,hs,hk=>by
  rw[oL] at hd
  rw[cK] at hk hs⊢
  have hq:=ga e.Kids
  obtain⟨k,rfl⟩:∃m,k=m+1:=⟨k-1,by omega⟩
  have hdd:=(oF e.Kids d).1 (by omega)
  have:=z8 k (cv.f k) e ((d+1:Nat):Int) (by omega) (by omega) (fun x hx=>by
   have:=dQ hx
   rw[wrP d (by omega)];exact yo d x k (by omega) (hdd x hx) (by omega) (by omega)) e.Kids.length k 0 1 (by omega) (by omega) (by omega) (by simp only[List.drop_zero];omega)
  rw[show((0:Nat):Int)=0 from rfl,List.drop_zero] at this
  rw[cv.f,this]
  simp
theorem FV:∀e:GEx,exD e≤exN e:=by
 refine eC fun e ih=>?_
 rw[oL,cK]
 have:=(oF e.Kids (cl e.Kids)).2 fun x hx=>by
  have:=ih x hx;have:=dQ hx;omega
 omega
theorem CV (x:GEx) (xs:List GEx):kQ (x::xs)=max (exD x) (kQ xs):=by simp only[kQ]
theorem B5 (k:Nat) (rec':GEx→Option (Int×Int)) (e:GEx) (hl:e.Kids.length<4611686018427387904) (H:∀x∈e.Kids,rec' x=some ((exN x:Int),(exD x:Int))) (hb:cl e.Kids≤1048577) :
  ∀(d n i:Nat) (s t:Int),i+d=e.Kids.length→d<n→0≤s→s+cl (e.Kids.drop i)≤100000000→1≤t→
   bT.l0 k rec' e n s t (i:Int)=some (s+cl (e.Kids.drop i),max t (1+kQ (e.Kids.drop i):Nat)):=by
 intro d
 induction d with
 |zero=>
  intro n i s t hi hn h0 h1 h2
  obtain⟨n,rfl⟩:∃m,n=m+1:=⟨n-1,by omega⟩
  rw[bT.l0,if_neg (by omega),List.drop_eq_nil_of_le (by omega),eS,show kQ []=0 by simp only[kQ]]
  congr 2
  ·simp
  ·push_cast;omega
 |succ d ih=>
  intro n i s t hi hn h0 h1 h2
  obtain⟨n,rfl⟩:∃m,n=m+1:=⟨n-1,by omega⟩
  have hlt:i<e.Kids.length:=by omega
  have hd:=FV e.Kids[i]
  have hm:=dQ (List.getElem_mem hlt:e.Kids[i]∈e.Kids)
  rw[List.drop_eq_getElem_cons hlt,cS] at h1⊢
  rw[CV,bT.l0,if_pos (by omega),ae (by omega),Int.toNat_natCast,List.getElem?_eq_getElem hlt]
  simp only[Option.bind_some,H e.Kids[i] (List.getElem_mem hlt)]
  push_cast at h1
  rw[wrS i (by omega),wr (s+_) (by omega),wr ((exD e.Kids[i]:Int)+1) (by omega)]
  by_cases h:t<(exD e.Kids[i]:Int)+1
  ·rw[if_pos h,ih n (i+1) _ _ (by omega) (by omega) (by omega) (by omega) (by omega)]
   congr 2
   ·push_cast;omega
   ·push_cast;omega
  ·rw[if_neg h,ih n (i+1) _ _ (by omega) (by omega) (by omega) (by omega) (by omega)]
   congr 2
   ·push_cast;omega
   ·push_cast;omega
theorem Fs:∀e:GEx,exN e≤1048577→∀k:Nat,3 * exN e≤k→bT.f k e=some ((exN e:Int),(exD e:Int)):=by
 refine eC fun e ih hs k hk=>?_
 rw[cK] at hk hs⊢
 rw[oL]
 have hq:=ga e.Kids
 obtain⟨k,rfl⟩:∃m,k=m+1:=⟨k-1,by omega⟩
 have:=B5 k (bT.f k) e (by omega) (fun x hx=>ih x hx (by have:=dQ hx;omega) k (by have:=dQ hx;omega)) (by omega) e.Kids.length k 0 1 1 (by omega) (by omega) (by omega) (by simp only[List.drop_zero];omega) (by omega)
 rw[show((0:Nat):Int)=0 from rfl,List.drop_zero] at this
 rw[bT.f,this]
 simp only[Option.bind_some]
 congr 2
 push_cast;omega
theorem z1 (k:Nat) (g:GEx→Option Bool) (h:GEx→Bool) (l:List GEx) (hl:l.length<4611686018427387904) (H:∀x∈l,g x=some (h x)) :
  ∀(d n i:Nat),i+d=l.length→d<n→∃r,bN.l0 k g l n (i:Int)=some r∧((∃j:Int,r= .error j∧0≤j∧(l.drop i).any h=true)∨(r= .ok ()∧(l.drop i).any h=false)):=by
 intro d
 induction d with
 |zero=>
  intro n i hi hn
  obtain⟨n,rfl⟩:∃m,n=m+1:=⟨n-1,by omega⟩
  rw[bN.l0,if_neg (by omega),List.drop_eq_nil_of_le (by omega)]
  exact⟨_,rfl,.inr ⟨rfl,rfl⟩⟩
 |succ d ih=>
  intro n i hi hn
  obtain⟨n,rfl⟩:∃m,n=m+1:=⟨n-1,by omega⟩
  have hlt:i<l.length:=by omega
  rw[bN.l0,if_pos (by omega),ae (by omega),Int.toNat_natCast,List.getElem?_eq_getElem hlt,List.drop_eq_getElem_cons hlt,List.any_cons]
  simp only[Option.bind_some,H l[i] (List.getElem_mem hlt)]
  cases hh:h l[i] with
  |true=>rw[if_pos rfl];exact⟨_,rfl,.inl ⟨_,rfl,by omega,rfl⟩⟩
  |false=>
   rw[if_neg (by decide),wrS i (by omega),Bool.false_or]
   exact ih n (i+1) (by omega) (by omega)
theorem z6 (k:Nat) (g:GEx→Option Bool) (h:GEx→Bool) (l:List GEx) (hl:l.length<4611686018427387904) (H:∀x∈l,g x=some (h x)) (hk:l.length<k):cn.f g k l=some (l.any h):=by
 obtain⟨r,h1,h2⟩:=z1 k g h l hl H l.length k 0 (by omega) hk
 rw[show((0:Nat):Int)=0 from rfl] at h1
 rw[List.drop_zero] at h2
 unfold cn.f bN.f
 rw[h1]
 rcases h2 with⟨j,rfl,h3,h4⟩|⟨rfl,h4⟩
 ·simp only[Option.bind_some,h4,Option.some.injEq,Bool.not_eq_true',decide_eq_false_iff_not];omega
 ·simp only[Option.bind_some,h4];rfl
theorem DK (a:Int) (h:1≤a∧a≤7):n5.f a=some (gK a):=by
 have:a=1∨a=2∨a=3∨a=4∨a=5∨a=6∨a=7:=by omega
 rcases this with h|h|h|h|h|h|h <;> subst h <;> rfl
theorem CO (a:Int) (h:¬(1≤a∧a≤7)):gK a= -1:=by
 unfold gK
 repeat rw[if_neg (by omega)]
theorem in_k (a b c:Int):eW.f a b c=some (decide (b≤a)&&decide (a≤c)):=pF a b c
theorem EM (l:List GEx):(!(l.any fun x=> !bx x))=lA l:=by
 rw[lG]
 induction l with
 |nil=>rfl
 |cons x xs ih=>simp only[List.any_cons,List.all_cons,←ih];cases bx x <;> simp
theorem DL:∀e:GEx,exN e≤1048577→∀k:Nat,3 * exN e≤k→en.f k e=some (bx e):=by
 refine eC fun e ih hs k hk=>?_
 rw[cK] at hk hs
 have hq:=ga e.Kids
 obtain⟨k,rfl⟩:∃m,k=m+2:=⟨k-2,by omega⟩
 have hc:cn.f (fun y0=>cd.f (k+1) y0) (k+1) e.Kids=some (e.Kids.any fun x=> !bx x):=by
  refine z6 (k+1) _ _ _ (by omega) (fun x hx=>?_) (by omega)
  have:=dQ hx
  rw[cd.f,ih x hx (by omega) k (by omega)];rfl
 rw[en.f,qP,←EM]
 simp only[lJ.f,jp.f,in_k,hc,Option.bind_some]
 by_cases hk7:1≤e.Kind∧e.Kind≤7
 ·simp only[DK e.Kind hk7,Option.bind_some,gV]
  cases hA:e.Kids.any (fun x=> !bx x) <;> (repeat' split) <;> simp_all <;> omega
 ·have h0:=CO e.Kind hk7
  have h1:gV e=false:=by
   unfold gV
   rw[h0]
   have:¬((-1:Int)=(e.Kids.length:Int)):=by omega
   simp[this]
  have h2:(decide (1≤e.Kind)&&decide (e.Kind≤7))=false:=by
   rw[Bool.eq_false_iff];simp only[ne_eq,Bool.and_eq_true,decide_eq_true_eq];exact hk7
  rw[h1,h2];rfl
def jB (e:GEx):Bool:=decide (exN e≤12)&&decide (exD e≤5)&&bx e
theorem od (e:GEx) (hs:exN e≤1048577) (k:Nat) (hk:3 * exN e≤k):ic.f k e=some (jB e):=by
 unfold ic.f
 rw[show(5:Int)=((5:Nat):Int) from rfl,yX 5 e k (by omega) hs hk,yC]
 simp only[Option.bind_some,jB]
 by_cases hd:exD e≤5
 ·rw[yo 5 e k (by omega) hd hs hk]
  cases bx e
  ·simp
  ·simp only[hd,decide_true,Bool.and_self,if_true,Option.bind_some,Bool.and_true]
   by_cases h:exN e≤12
   ·simp[h];omega
   ·simp[h];omega
 ·simp[hd]
theorem oa (e:GEx) (hs:exN e≤1048577) (k:Nat) (hk:3 * exN e≤k):je.f k e=some (jB e):=by
 unfold je.f
 rw[Fs e hs k hk,DL e hs k hk]
 simp only[Option.bind_some,jB]
 by_cases h:12<(exN e:Int)
 ·rw[if_pos h];simp;omega
 ·rw[if_neg h]
  by_cases h2:5<(exD e:Int)
  ·rw[if_pos h2];simp;omega
  ·rw[if_neg h2]
   have a1:exN e≤12:=by omega
   have a2:exD e≤5:=by omega
   simp[a1,a2]
def jx (mode:Int) (l:List GEv) (kd n:Int) (r:List (List GOcc)):List GOcc×Bool:=
 if kd=2 then orM (r.getD 0 []) (r.getD 1 []) else if kd=3 then fv (iR mode) (r.getD 0 []) (r.getD 1 []) else if kd=4 then fv (iS mode) (r.getD 0 []) (r.getD 1 []) else
 if kd=5 then fu (jk mode) (r.getD 0 []) (r.getD 1 []) (r.getD 2 []) else if kd=6 then fu (gx mode) (r.getD 0 []) (r.getD 1 []) (r.getD 2 []) else pu n (eM l) (r.getD 0 [])
mutual
/-- what is meant -/
def dA (mode:Int) (l:List GEv):GEx→List GOcc×Bool
 |⟨kd,sy,n,ks⟩=>if kd=1 then(bY sy 0 l,true) else match gb mode l ks with
  |none=>([],false)
  |some r=>jx mode l kd n r
def gb (mode:Int) (l:List GEv):List GEx→Option (List (List GOcc))
 |[]=>some []
 |x::xs=>if(dA mode l x).2=true then(gb mode l xs).map fun r=>(dA mode l x).1::r else none
end
theorem lk (mode:Int) (l:List GEv) (x:GEx):dA mode l x=if x.Kind=1 then(bY x.Sym 0 l,true) else match gb mode l x.Kids with
  |none=>([],false)
  |some r=>jx mode l x.Kind x.N r:=by
 obtain⟨a,b,c,d⟩:=x
 simp only[dA]
theorem mE (mode:Int) (l:List GEv):gb mode l []=some []:=by simp only[gb]
theorem lO (mode:Int) (l:List GEv) (x:GEx) (xs:List GEx):gb mode l (x::xs)=if(dA mode l x).2=true then(gb mode l xs).map fun r=>(dA mode l x).1::r else none:=by simp only[gb]
theorem oy {mode:Int} {l:List GEv}:∀{xs:List GEx} {r:List (List GOcc)},gb mode l xs=some r→r.length=xs.length∧∀i (h:i<xs.length),(dA mode l xs[i]).2=true∧r.getD i []=(dA mode l xs[i]).1
 |[],r,h=>by
  rw[mE] at h
  cases h
  exact⟨rfl,fun i hi=>by simp at hi⟩
 |x::xs,r,h=>by
  rw[lO] at h
  split at h
  ·rename_i h1
   rw[Option.map_eq_some_iff] at h
   obtain⟨r',h2,rfl⟩:=h
   obtain⟨a,b⟩:=oy h2
   refine⟨by simp[a],fun i hi=>?_⟩
   cases i with
   |zero=>exact⟨h1,rfl⟩
   |succ i=>
    have:=b i (by simpa using hi)
    exact⟨this.1,by simpa using this.2⟩
  ·cases h
/-- what the loops over the parts give -/
def oS (mode:Int) (l:List GEv) (acc:List (List GOcc)) (xs:List GEx):Except (List GOcc×Bool) (List (List GOcc)):=match gb mode l xs with
 |none=>.error ([],false)
 |some r=>.ok (acc++r)
theorem zL (mode:Int) (l:List GEv) (acc:List (List GOcc)) (x:GEx) (xs:List GEx):oS mode l acc (x::xs)=if(dA mode l x).2=true then oS mode l (acc++[(dA mode l x).1]) xs else .error ([],false):=by
 unfold oS
 rw[lO]
 by_cases h:(dA mode l x).2=true
 ·rw[if_pos h,if_pos h]
  cases gb mode l xs with
  |none=>rfl
  |some r=>simp
 ·rw[if_neg h,if_neg h]
theorem vW (k:Nat) (rec':GEx→Int→List GEv→Option (List GOcc×Bool)) (x:GEx) (mode:Int) (l:List GEv) (hx:x.Kids.length≤1000000) (hr:∀y∈x.Kids,rec' y mode l=some (dA mode l y)) :
  ∀(d i n:Nat) (acc:List (List GOcc)),i+d=x.Kids.length→d<n→acc.length≤i→aV.l0 k rec' x mode l n acc (i:Int)=some (oS mode l acc (x.Kids.drop i)):=by
 intro d
 induction d with
 |zero=>
  intro i n acc hi hn ha
  obtain⟨n,rfl⟩:∃m,n=m+1:=⟨n-1,by omega⟩
  rw[aV.l0,if_neg (by omega),List.drop_eq_nil_of_le (by omega)]
  simp[oS,mE]
 |succ d ih=>
  intro i n acc hi hn ha
  obtain⟨n,rfl⟩:∃m,n=m+1:=⟨n-1,by omega⟩
  have h:i<x.Kids.length:=by omega
  rw[aV.l0,if_pos (by omega),ae (by omega),Int.toNat_natCast,List.getElem?_eq_getElem h,List.drop_eq_getElem_cons h,zL]
  simp only[Option.bind_some,hr _ (List.getElem_mem h)]
  by_cases c:(dA mode l x.Kids[i]).2=true
  ·rw[if_pos c,if_pos c,ae (by omega),wrS i (by omega),ih (i+1) n _ (by omega) (by omega) (by simp;omega)]
  ·rw[if_neg c,if_neg c]
theorem kO {l:List GOcc} (h:ez l):dC (iL l).1:=by
 unfold iL
 split
 ·exact fP
 ·exact⟨by dsimp only;omega,h⟩
theorem AY {mode:Int} {l:List GEv} {kd n:Int} {r:List (List GOcc)}:dC (jx mode l kd n r).1:=by
 unfold jx
 split
 ·unfold orM
  split
  ·rename_i h;exact kO (sJ (pA h.1) (pA h.2))
  ·exact fP
 split
 ·unfold fv
  split
  ·rename_i h;exact kO (oU (vo mode) h.1 h.2).2.1.few
  ·exact fP
 split
 ·unfold fv
  split
  ·rename_i h;exact kO (oU (vw mode) h.1 h.2).2.1.few
  ·exact fP
 split
 ·unfold fu
  split
  ·rename_i h;exact kO (oI (vi mode) h.1 h.2.1 h.2.2).2.1.few
  ·exact fP
 split
 ·unfold fu
  split
  ·rename_i h;exact kO (oI (tf mode) h.1 h.2.1 h.2.2).2.1.few
  ·exact fP
 ·unfold pu
  split
  ·rename_i h;exact⟨by have:=po n (eM l) (r.getD 0 []);have:=bp h.1;dsimp only;omega,BN (pA h.1)⟩
  ·exact fP
theorem jW (sym:Int):∀(l:List GEv) (i:Nat),(bY sym i l).length≤l.length∧∀o∈bY sym i l,o.Ids.length=1
 |[],i=>by simp[bY]
 |e::l,i=>by
  have:=jW sym l (i+1)
  unfold bY
  split
  ·exact⟨by simp;omega,fun o ho=>by
    rcases List.mem_cons.1 ho with rfl|h
    ·rfl
    ·exact this.2 o h⟩
  ·exact⟨by simp;omega,this.2⟩
theorem A9 {mode:Int} {l:List GEv} (hl:l.length≤1000000) (x:GEx):dC (dA mode l x).1:=by
 rw[lk]
 split
 ·have:=jW x.Sym l 0
  exact⟨by dsimp only;omega,fun o ho=>by have:=this.2 o ho;omega⟩
 ·split
  ·exact fP
  ·exact AY
theorem bP {e:GEx} (h:bx e=true):gV e=true∧∀x∈e.Kids,bx x=true:=by
 rw[qP,Bool.and_eq_true,lG,List.all_eq_true] at h
 exact h
theorem dY {e:GEx} (h:gV e=true):(e.Kind=1∧e.Kids.length=0)∨(e.Kind=2∧e.Kids.length=2)∨(e.Kind=3∧e.Kids.length=2)∨(e.Kind=4∧e.Kids.length=2)∨(e.Kind=5∧e.Kids.length=3)∨(e.Kind=6∧e.Kids.length=3)∨(e.Kind=7∧e.Kids.length=1∧1≤e.N∧e.N≤20):=by
 unfold gV gK at h
 simp only[Bool.and_eq_true,decide_eq_true_eq] at h
 obtain⟨⟨⟨⟨h1,h2⟩,h3⟩,h4⟩,h5⟩:=h
 repeat' split at h1
 all_goals first|omega|skip
 rw[if_pos (by assumption),Bool.and_eq_true,decide_eq_true_eq,decide_eq_true_eq] at h5
 omega
theorem getD_some {α:Type} {r:List α} {d:α} {i:Nat} (h:i<r.length):r[i]? =some (r.getD i d):=by
 rw[List.getD_eq_getElem?_getD,List.getElem?_eq_getElem h];rfl
def kN (x:GEx) (mode:Int) (l:List GEv):List GOcc×Bool:=if jB x=true∧(0≤mode∧mode≤4)∧gL l=true then dA mode l x else([],false)
theorem iW {x:GEx} (h:jB x=true):exN x≤12∧bx x=true:=by
 unfold jB at h
 simp only[Bool.and_eq_true,decide_eq_true_eq] at h
 exact⟨h.1.1,h.2⟩
def All (Q:GOcc→Prop) (l:List GOcc):Prop:=∀x∈l,Q x
def jq (Q:GOcc→Prop):Prop:=∀a b,Q a→Q b→Q (cz a b)
theorem All.nil {Q:GOcc→Prop}:All Q []:=fun x hx=>by simp at hx
theorem All.filter {Q:GOcc→Prop} {l:List GOcc} (h:All Q l) (p:GOcc→Bool):All Q (l.filter p):=fun x hx=>h x (List.mem_filter.1 hx).1
theorem All.merge {Q:GOcc→Prop} {l m:List GOcc} (h:All Q l) (hm:All Q m):All Q (bd l m):=fun x hx=>by
 rcases di.1 hx with h1|h1
 ·exact h x h1
 ·exact hm x h1
theorem All.put {Q:GOcc→Prop} {l:List GOcc} {o:GOcc} (h:All Q l) (ho:Q o):All Q (cq l o):=fun x hx=>by
 rcases fZ.1 hx with h1|rfl
 ·exact h x h1
 ·exact ho
theorem All.rem {Q:GOcc→Prop} {l g:List GOcc} (h:All Q l):All Q (nq l g):=h.filter _
theorem All.sum {Q:GOcc→Prop} (hj:jq Q):∀{l:List GOcc} {o:GOcc},All Q l→Q o→Q (nv o l)
 |[],o,_,ho=>ho
 |x::l,o,h,ho=>All.sum hj (l:=l) (o:=cz o x) (fun y hy=>h y (by simp[hy])) (hj _ _ ho (h x (by simp)))
theorem All.eachs {Q:GOcc→Prop} (hj:jq Q) {o:GOcc} (ho:Q o):∀(l acc:List GOcc),All Q l→All Q acc→All Q (l.foldl (fun s e=>cq s (cz o e)) acc)
 |[],acc,_,ha=>ha
 |x::l,acc,h,ha=>All.eachs hj ho l _ (fun y hy=>h y (by simp[hy])) (ha.put (hj _ _ ho (h x (by simp))))
theorem All.found {Q:GOcc→Prop} (hj:jq Q) {mode:Int} {o:GOcc} {l:List GOcc} (h:All Q l) (ho:Q o):All Q (d9 mode o l):=by
 have one:∀x:GOcc,Q x→All Q [x]:=fun x hx y hy=>by rw[List.mem_singleton.1 hy];exact hx
 unfold d9
 by_cases h0:l.length=0
 ·rw[if_pos h0];exact All.nil
 rw[if_neg h0]
 split
 ·exact one _ (hj _ _ ho (by rw[List.getElem?_eq_getElem (show l.length-1<l.length by omega)];exact h _ (List.getElem_mem _)))
 split
 ·exact one _ (hj _ _ ho (by rw[List.getElem?_eq_getElem (show 0<l.length by omega)];exact h _ (List.getElem_mem _)))
 split
 ·exact one _ (All.sum hj h ho)
 ·exact All.eachs hj ho l [] h All.nil
theorem All.one {Q:GOcc→Prop} (hj:jq Q) {mode:Int} {p:GOcc→GOcc→Bool} {s:List GOcc×List GOcc} {o:GOcc} (h1:All Q s.1) (h2:All Q s.2) (ho:Q o):All Q (em mode p s o).1∧All Q (em mode p s o).2:=
 ⟨h1.rem,h2.merge ((h1.filter _).found hj ho)⟩
theorem All.ones {Q:GOcc→Prop} (hj:jq Q) {mode:Int} {p:GOcc→GOcc→Bool}:∀(r:List GOcc) {s:List GOcc×List GOcc},All Q r→All Q s.1→All Q s.2→All Q (r.foldl (em mode p) s).1∧All Q (r.foldl (em mode p) s).2
 |[],s,_,h1,h2=>⟨h1,h2⟩
 |o::r,s,hr,h1,h2=>by
  obtain⟨a,b⟩:=All.one hj (mode:=mode) (p:=p) h1 h2 (hr o (by simp))
  exact All.ones hj r (s:=em mode p s o) (fun y hy=>hr y (by simp[hy])) a b
theorem All.store {Q:GOcc→Prop} {mode:Int} {own:List GOcc} {o:GOcc} {alone:Bool} (h:All Q own) (ho:Q o):All Q (jF mode own o alone):=by
 unfold jF
 split
 ·exact fun y hy=>by rw[List.mem_singleton.1 hy];exact ho
 split
 ·exact h.put ho
 split
 ·exact h.put ho
 ·exact h
def pD (Q:GOcc→Prop) (s:List GOcc×List GOcc×List GOcc):Prop:=All Q s.1∧All Q s.2.1∧All Q s.2.2
theorem pD.half {Q:GOcc→Prop} (hj:jq Q) {mode:Int} {s:List GOcc×List GOcc×List GOcc} {o:GOcc} (h:pD Q s) (ho:Q o):pD Q (eg mode s o):=⟨h.1.store ho,h.2.1.rem,h.2.2.merge (h.2.1.found hj ho)⟩
theorem pD.other {Q:GOcc→Prop} (hj:jq Q) {mode:Int} {s:List GOcc×List GOcc×List GOcc} {o:GOcc} (h:pD Q s) (ho:Q o):pD Q (iv mode s o):=by
 have:=pD.half hj (mode:=mode) (s:=(s.2.1,s.1,s.2.2)) ⟨h.2.1,h.1,h.2.2⟩ ho
 exact⟨this.2.1,this.1,this.2.2⟩
theorem fX {α σ:Type} (P:σ→Prop) (g:σ→α→σ):∀(l:List α) (s:σ),(∀s,∀x∈l,P s→P (g s x))→P s→P (l.foldl g s)
 |[],s,_,h=>h
 |x::l,s,hs,h=>fX P g l (g s x) (fun s y hy=>hs s y (by simp[hy])) (hs s x (by simp) h)
/-- a step keeps Q -/
def BH (Q:GOcc→Prop) (f:Two→List GOcc→List GOcc→Two×List GOcc):Prop:=∀(p:Two) (l r:List GOcc),All Q p.1→All Q p.2→All Q l→All Q r→All Q (f p l r).1.1∧All Q (f p l r).1.2∧All Q (f p l r).2
def yl (Q:GOcc→Prop) (f:Two→List GOcc→List GOcc→List GOcc→Two×List GOcc):Prop:=∀(p:Two) (a b c:List GOcc),All Q p.1→All Q p.2→All Q a→All Q b→All Q c→All Q (f p a b c).1.1∧All Q (f p a b c).1.2∧All Q (f p a b c).2
theorem Cx {Q:GOcc→Prop} (hj:jq Q) (mode:Int):BH Q (iS mode):=fun p l r h1 h2 hl hr=>by
 obtain⟨a,b⟩:=All.ones hj (mode:=mode) (p:=before) r (s:=(p.1,[])) hr h1 All.nil
 exact⟨a.merge hl,h2,b⟩
theorem B6 {Q:GOcc→Prop} (hj:jq Q) (mode:Int):BH Q (iR mode):=fun p l r h1 h2 hl hr=>by
 have a:=fX (pD Q) (eg mode) l (p.1,p.2,[]) (fun s x hx h=>h.half hj (hl x hx)) ⟨h1,h2,All.nil⟩
 have b:=fX (pD Q) (iv mode) r _ (fun s x hx h=>h.other hj (hr x hx)) a
 exact⟨b.1,b.2.1,b.2.2⟩
theorem CU {Q:GOcc→Prop} (hj:jq Q) (mode:Int):yl Q (jk mode):=fun p a b c h1 h2 ha hb hc=>by
 obtain⟨x,y⟩:=All.ones hj (mode:=mode) (p:=dF p.2) c (s:=(p.1,[])) hc h1 All.nil
 exact⟨x.merge ha,h2.merge hb,y⟩
theorem Bi {Q:GOcc→Prop} (hj:jq Q) (mode:Int):yl Q (gx mode):=fun p a b c h1 h2 ha hb hc=>
 ⟨h1.merge ha,h2.merge hc,fX (All Q) _ b [] (fun s x hx h=>h.merge ((h1.filter _).found hj (hb x hx))) All.nil⟩
def Cg (Q:GOcc→Prop) (s:Two×List GOcc):Prop:=All Q s.1.1∧All Q s.1.2∧All Q s.2
theorem yM {Q:GOcc→Prop} {f:Two→List GOcc→List GOcc→Two×List GOcc} (hf:BH Q f) {a b:List GOcc} (ha:All Q a) (hb:All Q b):All Q (fG f a b):=
 (fX (Cg Q) _ (bC [a,b]) (([],[]),[]) (fun s t _ h=>by
  obtain⟨x,y,z⟩:=hf s.1 (atM a t) (atM b t) h.1 h.2.1 (ha.filter _) (hb.filter _)
  exact⟨x,y,h.2.2.merge z⟩) ⟨All.nil,All.nil,All.nil⟩).2.2
theorem yA {Q:GOcc→Prop} {f:Two→List GOcc→List GOcc→List GOcc→Two×List GOcc} (hf:yl Q f) {a b c:List GOcc} (ha:All Q a) (hb:All Q b) (hc:All Q c):All Q (fH f a b c):=
 (fX (Cg Q) _ (bC [a,b,c]) (([],[]),[]) (fun s t _ h=>by
  obtain⟨x,y,z⟩:=hf s.1 (atM a t) (atM b t) (atM c t) h.1 h.2.1 (ha.filter _) (hb.filter _) (hc.filter _)
  exact⟨x,y,h.2.2.merge z⟩) ⟨All.nil,All.nil,All.nil⟩).2.2
theorem nN {Q:GOcc→Prop} {l:List GOcc} (h:All Q l):All Q (iL l).1:=by
 unfold iL
 split
 ·exact All.nil
 ·exact h
mutual
/-- the letters that are named -/
def ra:GEx→List Int
 |⟨kd,sy,_,ks⟩=>if kd=1 then[sy] else oX ks
def oX:List GEx→List Int
 |[]=>[]
 |x::xs=>ra x++oX xs
end
theorem CM (x:GEx):ra x=if x.Kind=1 then[x.Sym] else oX x.Kids:=by cases x;simp only[ra]
theorem sH {x:GEx} {s:Int}:∀{l:List GEx},x∈l→s∈ra x→s∈oX l
 |y::l,hx,hs=>by
  simp only[oX,List.mem_append]
  rcases List.mem_cons.1 hx with rfl|hx
  ·exact .inl hs
  ·exact .inr (sH hx hs)
/-- what holds of events, is kept by joining, and by delays up to the last event, holds of all that is meant -/
theorem Dh {Q:GOcc→Prop} (hj:jq Q) {mode:Int} {l:List GEv}:∀x:GEx,bx x=true→
  (∀s∈ra x,All Q (bY s 0 l))→(∀n o,1≤n→Q o→kq n (eM l) o=true→Q (dz n o))→All Q (dA mode l x).1:=by
 refine eC fun x ih hf hs hp=>?_
 obtain⟨here,hks⟩:=bP hf
 have kind:=dY here
 rw[lk]
 rw[CM] at hs
 split
 ·rename_i h1
  rw[if_pos h1] at hs
  exact hs _ (by simp)
 rename_i h1
 rw[if_neg h1] at hs
 cases hm:gb mode l x.Kids with
 |none=>exact All.nil
 |some r=>
  obtain⟨rl,rg⟩:=oy hm
  have q:∀i,i<x.Kids.length→All Q (r.getD i []):=fun i hi=>by
   rw[(rg i hi).2];exact ih _ (List.getElem_mem hi) (hks _ (List.getElem_mem hi)) (fun s h=>hs s (sH (List.getElem_mem hi) h)) hp
  dsimp only
  unfold jx
  split
  ·unfold orM
   split
   ·exact nN ((q 0 (by omega)).merge (q 1 (by omega)))
   ·exact All.nil
  split
  ·unfold fv
   split
   ·exact nN (yM (B6 hj mode) (q 0 (by omega)) (q 1 (by omega)))
   ·exact All.nil
  split
  ·unfold fv
   split
   ·exact nN (yM (Cx hj mode) (q 0 (by omega)) (q 1 (by omega)))
   ·exact All.nil
  split
  ·unfold fu
   split
   ·exact nN (yA (CU hj mode) (q 0 (by omega)) (q 1 (by omega)) (q 2 (by omega)))
   ·exact All.nil
  split
  ·unfold fu
   split
   ·exact nN (yA (Bi hj mode) (q 0 (by omega)) (q 1 (by omega)) (q 2 (by omega)))
   ·exact All.nil
  ·unfold pu
   split
   ·rename_i hn
    intro y hy
    unfold dE at hy
    obtain⟨o,ho,rfl⟩:=List.mem_map.1 hy
    obtain⟨h1,h2⟩:=List.mem_filter.1 ho
    exact hp _ _ hn.2.1 (q 0 (by omega) o h1) h2
   ·exact All.nil
theorem yf:∀{l:List Int} {p:Int},Up l→(∀x∈l,p<x∧x≤23)→ip p l=true
 |[],_,_,_=>rfl
 |x::l,p,hu,h=>by
  have hu':=List.pairwise_cons.1 hu
  have:=h x (by simp)
  simp only[ip,Bool.and_eq_true,decide_eq_true_eq]
  exact⟨this,yf hu'.2 fun y hy=>⟨hu'.1 y hy,(h y (by simp[hy])).2⟩⟩
theorem j6 (o:GOcc):jw o=true↔1≤o.From∧o.From≤o.To∧o.To≤2000∧1≤o.Ids.length∧cy o.Ids:=by
 unfold jw
 simp only[Bool.and_eq_true,decide_eq_true_eq]
 constructor
 ·rintro⟨⟨⟨⟨a,b⟩,c⟩,d⟩,e⟩
  exact⟨a,b,c,d,ya e⟩
 ·rintro⟨a,b,c,d,e⟩
  exact⟨⟨⟨⟨a,b⟩,c⟩,d⟩,yf e.1 fun x hx=>by have:=e.2 x hx;omega⟩
theorem BV {l:List GOcc} (h1:All (fun o=>jw o=true) l) (h2:Asc l) (h3:l.length≤40):aP l=true:=by
 unfold aP
 simp only[Bool.and_eq_true,List.all_eq_true,List.mem_range',decide_eq_true_eq]
 refine⟨?_,h3⟩
 rintro i ⟨j,hj,rfl⟩
 rw[show 0+1 * j=j by omega]
 unfold lh
 rw[List.getElem?_eq_getElem hj]
 simp only[Bool.and_eq_true]
 refine⟨h1 _ (List.getElem_mem hj),?_⟩
 cases j with
 |zero=>rfl
 |succ j=>
  simp only[ke,List.getElem?_eq_getElem (show j<l.length by omega)]
  exact List.pairwise_iff_getElem.1 h2 _ _ _ _ (by omega)
/-- right, and not gd T -/
def kU (T:Int) (o:GOcc):Prop:=jw o=true∧o.To≤T
theorem Cd {a b:List Int} (h:1≤a.length):1≤(dN a b).length:=by
 cases a with
 |nil=>simp at h
 |cons x a=>exact List.length_pos_of_mem (eD.2 (.inl (by simp :x∈x::a)))
theorem B3 (T:Int):jq (kU T):=fun a b ha hb=>by
 obtain⟨a0,a5⟩:=ha
 obtain⟨b0,b5⟩:=hb
 obtain⟨a1,a2,a3,a4,a6⟩:=(j6 a).1 a0
 obtain⟨b1,b2,b3,b4,b6⟩:=(j6 b).1 b0
 refine⟨(j6 _).2 ⟨?_,?_,?_,Cd a4,n9 a6 b6⟩,?_⟩ <;> simp only[cz] <;> omega
/-- events that rise in time -/
def jr (l:List GEv):Prop:=l.Pairwise (fun a b=>a.At<b.At)∧(∀e∈l,1≤e.At∧e.At≤1000)∧l.length≤24
theorem pr {l:List GEv} (h:gL l=true):jr l:=by
 have h24:=Ca h
 refine⟨?_,fun e he=>by have:=y7 h he;unfold my at this;simp only[Bool.and_eq_true,decide_eq_true_eq] at this;omega,h24⟩
 unfold gL at h
 simp only[Bool.and_eq_true,List.all_eq_true,List.mem_range',decide_eq_true_eq] at h
 have step:∀i (hi:i+1<l.length),l[i].At<l[i+1].At:=fun i hi=>by
  have:=h.1 (i+1) ⟨i+1,by omega,by omega⟩
  unfold jl at this
  rw[List.getElem?_eq_getElem hi] at this
  simp only[Bool.and_eq_true,jO,List.getElem?_eq_getElem (show i<l.length by omega),decide_eq_true_eq] at this
  exact this.2
 have far:∀d i (hi:i+d+1<l.length),l[i].At<l[i+d+1].At:=fun d=>by
  induction d with
  |zero=>intro i hi;exact step i hi
  |succ d ih=>intro i hi;have:=ih i (by omega);have:=step (i+d+1) hi;simp only[show i+(d+1)+1=i+d+1+1 by omega];omega
 refine List.pairwise_iff_getElem.2 fun i j hi hj hij=>?_
 have:=far (j-i-1) i (by omega)
 have e:i+(j-i-1)+1=j:=by omega
 simp only[e] at this
 exact this
theorem Am {l:List GEv} (h:jr l):∀e∈l,e.At≤eM l:=fun e he=>by
 unfold eM
 obtain⟨i,hi,rfl⟩:=List.mem_iff_getElem.1 he
 rw[List.getLast?_eq_getElem?,List.getElem?_eq_getElem (show l.length-1<l.length by omega)]
 dsimp only
 rcases Nat.lt_or_ge i (l.length-1) with h1|h1
 ·have:=List.pairwise_iff_getElem.1 h.1 i (l.length-1) (by omega) (by omega) h1;omega
 ·have e:i=l.length-1:=by omega
  simp only[e];omega
theorem iB {sym:Int} {o:GOcc}:∀{l:List GEv} {i:Nat},o∈bY sym i l→∃j e,l[j]? =some e∧e.Sym=sym∧o=⟨e.At,e.At,[((i+j:Nat):Int)]⟩
 |[],i,h=>by simp[bY] at h
 |e::l,i,h=>by
  unfold bY at h
  have step:o∈bY sym (i+1) l→∃j e',(e::l)[j]? =some e'∧e'.Sym=sym∧o=⟨e'.At,e'.At,[((i+j:Nat):Int)]⟩:=fun h=>by
   obtain⟨j,e',h1,h2,h3⟩:=iB h
   exact⟨j+1,e',by simpa using h1,h2,by rw[h3,show i+1+j=i+(j+1) by omega]⟩
  split at h
  ·rcases List.mem_cons.1 h with h1|h1
   ·rename_i hs
    exact⟨0,e,rfl,hs,by rw[h1];rfl⟩
   ·exact step h1
  ·exact step h
theorem gB {sym:Int}:∀{l:List GEv} {i:Nat},l.Pairwise (fun a b=>a.At<b.At)→Asc (bY sym i l)
 |[],i,_=>by simp[bY,Asc]
 |e::l,i,h=>by
  have h':=List.pairwise_cons.1 h
  unfold bY
  split
  ·refine List.pairwise_cons.2 ⟨fun o ho=>?_,gB h'.2⟩
   obtain⟨j,e',h1,h2,rfl⟩:=iB ho
   have:=h'.1 e' (List.mem_of_getElem? h1)
   rw[lQ]
   exact .inl this
  ·exact gB h'.2
theorem y9 {l:List GEv} (h:jr l) (sym:Int):All (kU (eM l)) (bY sym 0 l):=fun o ho=>by
 obtain⟨j,e,h1,h2,rfl⟩:=iB ho
 have hm:=List.mem_of_getElem? h1
 have:=h.2.1 e hm
 have:=Am h e hm
 have hj:j<l.length:=by
  rcases Nat.lt_or_ge j l.length with q|q
  ·exact q
  ·rw[List.getElem?_eq_none q] at h1;cases h1
 have:=h.2.2
 refine⟨(j6 _).2 ⟨by dsimp only;omega,by dsimp only;omega,by dsimp only;omega,by simp,⟨by simp[Up],fun x hx=>?_⟩⟩,by dsimp only;omega⟩
 have:=List.mem_singleton.1 hx
 omega
theorem nJ {l:List GOcc} (h:Asc l):Asc (iL l).1∧(iL l).1.length≤40:=by
 unfold iL
 split
 ·exact⟨by simp[Asc],by simp⟩
 ·exact⟨h,by dsimp only;omega⟩
theorem BR {mode:Int} {l:List GEv} (h:jr l) (x:GEx) (hf:bx x=true):All (kU (eM l)) (dA mode l x).1:=
 Dh (B3 _) x hf (fun s _=>y9 h s) fun n o hn ho hi=>by
  unfold kq at hi
  simp only[Bool.and_eq_true,decide_eq_true_eq] at hi
  obtain⟨a1,a2,a3,a4,a5⟩:=(j6 o).1 ho.1
  exact⟨(j6 _).2 ⟨by simp only[dz];omega,by simp only[dz];omega,by simp only[dz];omega,by simpa only[dz] using a4,by simpa only[dz] using a5⟩,by simp only[dz];omega⟩
theorem DZ {mode:Int} {l:List GEv} (h:jr l) (x:GEx) (hf:bx x=true):Asc (dA mode l x).1∧(dA mode l x).1.length≤40:=by
 have nil:Asc ([]:List GOcc)∧([]:List GOcc).length≤40:=⟨by simp[Asc],by simp⟩
 rw[lk]
 split
 ·exact⟨gB h.1,by have:=(jW x.Sym l 0).1;have:=h.2.2;dsimp only;omega⟩
 split
 ·exact nil
 unfold jx
 split
 ·unfold orM
  split
  ·rename_i hh;exact nJ (cL (qy hh.1))
  ·exact nil
 split
 ·unfold fv
  split
  ·rename_i hh;exact nJ (oU (vo mode) hh.1 hh.2).1
  ·exact nil
 split
 ·unfold fv
  split
  ·rename_i hh;exact nJ (oU (vw mode) hh.1 hh.2).1
  ·exact nil
 split
 ·unfold fu
  split
  ·rename_i hh;exact nJ (oI (vi mode) hh.1 hh.2.1 hh.2.2).1
  ·exact nil
 split
 ·unfold fu
  split
  ·rename_i hh;exact nJ (oI (tf mode) hh.1 hh.2.1 hh.2.2).1
  ·exact nil
 ·unfold pu
  split
  ·rename_i hh;exact⟨n6 (qy hh.1),Nat.le_trans (po _ _ _) (bp hh.1)⟩
  ·exact nil
theorem AF {mode:Int} {l:List GEv} (h:jr l) (x:GEx) (hf:bx x=true):aP (dA mode l x).1=true:=by
 obtain⟨a,b⟩:=DZ (mode:=mode) h x hf
 exact BV (fun o ho=>(BR h x hf o ho).1) a b
theorem CE (x:GEx) (mode:Int) (l:List GEv):aP (kN x mode l).1=true:=by
 unfold kN
 split
 ·rename_i h
  exact AF (pr h.2.2) x (iW h.1).2
 ·exact mL
theorem yY (k:Nat) (hk:1000000000000≤k) (l:List GEv) (hl:l.length≤1000000):dG.f k l=some (gL l):=by
 unfold dG.f gL
 by_cases h:24<(l.length:Int)
 ·rw[if_pos h];have:¬l.length≤24:=by omega
  simp[this]
 ·rw[if_neg h]
  have:=ur k l (by omega) l.length k 0 (by omega) (by omega)
  rw[show((0:Nat):Int)=0 from rfl] at this
  rw[this]
  have h':l.length≤24:=by omega
  cases(List.range' 0 l.length).all (jl l) <;> simp[h']
theorem qE (k:Nat) (hk:1000000000000≤k) (l:List GEv) (hl:l.length≤1000000):dg.f k l=some (gL l):=by
 unfold dg.f gL
 have:=ue k l (by omega) l.length k 0 (by omega) (by omega)
 rw[show((0:Nat):Int)=0 from rfl] at this
 rw[this]
 cases(List.range' 0 l.length).all (jl l)
 ·simp
 ·simp only[if_true,Option.bind_some,Bool.true_and,Option.some.injEq]
  by_cases h:l.length≤24
  ·have:¬(24:Int)<l.length:=by omega
   simp[h,this]
  ·have:(24:Int)<l.length:=by omega
   simp[h,this]
theorem A4 (k:Nat) (hk:1000000000000≤k) (mode:Int) (hmo:0≤mode∧mode≤4) (a b c:List GOcc) (ha:dC a) (hb:dC b) (hc:dC c):gq.f k mode ⟨[],[]⟩ a b c=some (aP a&&(aP b&&aP c)):=by
 unfold gq.f lM.f
 rw[(nX hmo).1]
 simp only[Option.bind_some]
 rw[if_pos trivial,fJ k hk [] fP,mL]
 simp only[Option.bind_some]
 rw[if_pos trivial]
 simp only[Option.bind_some]
 rw[if_pos trivial,fJ k hk a ha,fJ k hk b hb,fJ k hk c hc]
 simp only[Option.bind_some]
 cases aP a <;> cases aP b <;> rfl
theorem zM (k:Nat) (hk:1000000000000≤k) {a b:List GOcc} (ha:aP a=true) (hb:aP b=true):bn.f k [a,b]=some (bC [a,b]):=by
 have:=bp ha;have:=bp hb
 refine yc k hk _ (by simp) (fun l hl=>?_) (fun l hl=>?_) <;>
 ·simp only[List.mem_cons,List.not_mem_nil,or_false] at hl
  rcases hl with rfl|rfl
  ·first|omega|exact jL ha
  ·first|omega|exact jL hb
theorem wS (k:Nat) (hk:1000000000000≤k) {a b c:List GOcc} (ha:aP a=true) (hb:aP b=true) (hc:aP c=true):bn.f k [a,b,c]=some (bC [a,b,c]):=by
 have:=bp ha;have:=bp hb;have:=bp hc
 refine yc k hk _ (by simp) (fun l hl=>?_) (fun l hl=>?_) <;>
 ·simp only[List.mem_cons,List.not_mem_nil,or_false] at hl
  rcases hl with rfl|rfl|rfl
  ·first|omega|exact jL ha
  ·first|omega|exact jL hb
  ·first|omega|exact jL hc
theorem yG (k:Nat) (hk:1000000000000≤k) (mode:Int) (hmo:0≤mode∧mode≤4) {f:Two→List GOcc→List GOcc→Two×List GOcc} (hf:rf f) {g:aB→Int→List GOcc→List GOcc→Option (aB×List GOcc)} (hg:Does k mode f g)
  (a b:List GOcc) (sa:dC a) (sb:dC b):ce.f g k mode a b=some (fv f a b):=by
 unfold ce.f fv
 rw[zX k hk mode hmo a b sa sb]
 simp only[Option.bind_some]
 by_cases h:aP a=true∧aP b=true
 ·obtain⟨ha,hb⟩:=h
  have hl:=uV ha hb
  have:=bp ha;have:=bp hb
  rw[if_pos (by simp[ha,hb]),if_pos ⟨ha,hb⟩,zM k hk ha hb]
  simp only[Option.bind_some]
  have q:=qw (fun s:Two×List GOcc=>s.2) (bC [a,b]) (fun n s i=>ce.l0 k g mode a b (bC [a,b]) n s.1.1 s.1.2 s.2 i) (dk fun p t=>f p (atM a t) (atM b t)) fB
   (fun n s=>by rw[ce.l0,if_neg (by omega)])
   (fun n s i h hI=>by
    obtain⟨q1,q2⟩:=hI.pair hf ha hb (t:=(bC [a,b])[i]) (by omega)
    refine⟨?_,q1⟩
    have:=iJ a (bC [a,b])[i];have:=iJ b (bC [a,b])[i]
    have:=hI.2.2.2.2;have:=q2.2.2
    rw[ce.l0,if_pos (by omega),ae (by omega),Int.toNat_natCast,List.getElem?_eq_getElem h]
    simp only[Option.bind_some]
    rw[im k hk a _ (by omega)]
    simp only[Option.bind_some]
    rw[im k hk b _ (by omega)]
    simp only[Option.bind_some]
    rw[hg (100 * i) s.1 _ _ (by omega) hI.1 hI.2.1 (iD (fN ha) _) (iD (fN hb) _) (by omega) (by omega)]
    simp only[Option.bind_some]
    rw[bV k hk _ _ (by omega) hI.2.2.2.1.few q2.2.1.few hI.2.2.1,wrS i (by omega)]
    rfl) k (([],[]),[]) (by omega) fB.start
  have o:=oU hf ha hb
  have:=o.2.2
  have q':ce.l0 k g mode a b (bC [a,b]) k [] [] [] 0=some (fG f a b):=q.1
  rw[q']
  simp only[Option.bind_some]
  rw[Bx k hk _ (by omega) o.2.1.few]
  rfl
 ·rw[if_neg (by simpa using h),if_neg h]
theorem zA (k:Nat) (hk:1000000000000≤k) (mode:Int) (hmo:0≤mode∧mode≤4) {f:Two→List GOcc→List GOcc→List GOcc→Two×List GOcc} (hf:oV f) {g:ax→Int→List GOcc→List GOcc→List GOcc→Option (ax×List GOcc)} (hg:Does3 k mode f g)
  (a b c:List GOcc) (sa:dC a) (sb:dC b) (sc:dC c):ci.f g k mode a b c=some (fu f a b c):=by
 unfold ci.f fu
 rw[A4 k hk mode hmo a b c sa sb sc]
 simp only[Option.bind_some]
 by_cases h:aP a=true∧aP b=true∧aP c=true
 ·obtain⟨ha,hb,hc⟩:=h
  have hl:=uB ha hb hc
  have:=bp ha;have:=bp hb;have:=bp hc
  rw[if_pos (by simp[ha,hb,hc]),if_pos ⟨ha,hb,hc⟩,wS k hk ha hb hc]
  simp only[Option.bind_some]
  have q:=qw (fun s:Two×List GOcc=>s.2) (bC [a,b,c]) (fun n s i=>ci.l0 k g mode a b c (bC [a,b,c]) n s.1.1 s.1.2 s.2 i) (dk fun p t=>f p (atM a t) (atM b t) (atM c t)) fB
   (fun n s=>by rw[ci.l0,if_neg (by omega)])
   (fun n s i h hI=>by
    obtain⟨q1,q2⟩:=hI.span hf ha hb hc (t:=(bC [a,b,c])[i]) (by omega)
    refine⟨?_,q1⟩
    have:=iJ a (bC [a,b,c])[i];have:=iJ b (bC [a,b,c])[i];have:=iJ c (bC [a,b,c])[i]
    have:=hI.2.2.2.2;have:=q2.2.2
    rw[ci.l0,if_pos (by omega),ae (by omega),Int.toNat_natCast,List.getElem?_eq_getElem h]
    simp only[Option.bind_some]
    rw[im k hk a _ (by omega)]
    simp only[Option.bind_some]
    rw[im k hk b _ (by omega)]
    simp only[Option.bind_some]
    rw[im k hk c _ (by omega)]
    simp only[Option.bind_some]
    rw[hg (100 * i) s.1 _ _ _ (by omega) hI.1 hI.2.1 (iD (fN ha) _) (iD (fN hb) _) (iD (fN hc) _) (by omega) (by omega) (by omega)]
    simp only[Option.bind_some]
    rw[bV k hk _ _ (by omega) hI.2.2.2.1.few q2.2.1.few hI.2.2.1,wrS i (by omega)]
    rfl) k (([],[]),[]) (by omega) fB.start
  have o:=oI hf ha hb hc
  have:=o.2.2
  have q':ci.l0 k g mode a b c (bC [a,b,c]) k [] [] [] 0=some (fH f a b c):=q.1
  rw[q']
  simp only[Option.bind_some]
  rw[Bx k hk _ (by omega) o.2.1.few]
  rfl
 ·rw[if_neg (by simpa using h),if_neg h]
theorem zb (k:Nat) (hk:1000000000000≤k) (mode:Int) (hmo:0≤mode∧mode≤4) (a b:List GOcc) (sa:dC a) (sb:dC b):kI.f k mode a b=some (fv (iS mode) a b):=by
 unfold kI.f
 rw[yG k hk mode hmo (vw mode) (fun m p l r hm h1 h2 hl hr nl nr=>(B9 k hk mode ⟨p.1,p.2⟩ l r m (by omega) h1 hl hr (by omega) (by omega)).1) a b sa sb]
 rfl
theorem yg (k:Nat) (hk:1000000000000≤k) (mode:Int) (hmo:0≤mode∧mode≤4) (a b:List GOcc) (sa:dC a) (sb:dC b):kr.f k mode a b=some (fv (iR mode) a b):=by
 unfold kr.f
 rw[yG k hk mode hmo (vo mode) (fun m p l r hm h1 h2 hl hr nl nr=>(C1 k hk mode ⟨p.1,p.2⟩ l r m (by omega) h1 h2 hl hr (by omega)).1) a b sa sb]
 rfl
theorem zo (k:Nat) (hk:1000000000000≤k) (mode:Int) (hmo:0≤mode∧mode≤4) (a b c:List GOcc) (sa:dC a) (sb:dC b) (sc:dC c):ku.f k mode a b c=some (fu (jk mode) a b c):=by
 unfold ku.f
 rw[zA k hk mode hmo (vi mode) (fun m p a b c hm h1 h2 ha hb hc na nb nc=>(B8 k hk mode ⟨p.1,p.2⟩ a b c m (by omega) h1 h2 ha hb hc (by omega) (by omega) (by omega)).1) a b c sa sb sc]
 rfl
theorem w6 (k:Nat) (hk:1000000000000≤k) (mode:Int) (hmo:0≤mode∧mode≤4) (a b c:List GOcc) (sa:dC a) (sb:dC b) (sc:dC c):jK.f k mode a b c=some (fu (gx mode) a b c):=by
 unfold jK.f
 rw[zA k hk mode hmo (tf mode) (fun m p a b c hm h1 h2 ha hb hc na nb nc=>(AD k hk mode ⟨p.1,p.2⟩ a b c m (by omega) h1 h2 ha hb hc (by omega) (by omega) (by omega)).1) a b c sa sb sc]
 rfl
theorem now_i (l:List GEv) (hl:l.length≤1000000):qa.f l=some (eM l):=by
 have:(if(l.length:Int)=0 then some (0:Int) else(req ((0:Int)≤(IntKind.wrap .i64 ((l.length:Int)-1))) ((l[(IntKind.wrap .i64 ((l.length:Int)-1)).toNat]?).bind fun e4=>(some e4.At))))=some (eM l):=by
  unfold eM
  by_cases h:(l.length:Int)=0
  ·have e:l=[]:=List.length_eq_zero_iff.1 (by omega)
   subst e;rfl
  ·rw[if_neg h,wr _ (by omega),ae (by omega),List.getLast?_eq_getElem?,show((l.length:Int)-1).toNat=l.length-1 by omega,List.getElem?_eq_getElem (show l.length-1<l.length by omega)]
   rfl
 exact this
theorem Ft (mode:Int) (hmo:0≤mode∧mode≤4) (l:List GEv) (hl:l.length≤1000000):∀x:GEx,exN x≤1000000→bx x=true→∀k:Nat,1000000000000+exN x≤k→aV.f k x mode l=some (dA mode l x):=by
 refine eC fun x ih hn hf k hk=>?_
 obtain⟨here,hks⟩:=bP hf
 rw[cK] at hn hk
 obtain⟨k,rfl⟩:∃m,k=m+1:=⟨k-1,by omega⟩
 have hkk:1000000000000≤k:=by omega
 have hlen:=ga x.Kids
 have kind:=dY here
 have hrec:∀y∈x.Kids,aV.f k y mode l=some (dA mode l y):=fun y hy=>by
  have:=dQ hy
  exact ih y hy (by omega) (hks y hy) k (by omega)
 have L1:=vW k (aV.f k) x mode l (by omega) (fun y hy=>hrec y hy) x.Kids.length 0 k [] (by omega) (by omega) (by simp)
 rw[show((0:Nat):Int)=0 from rfl,List.drop_zero] at L1
 rw[aV.f,L1,lk]
 simp only[Option.bind_some]
 unfold oS
 cases hm:gb mode l x.Kids with
 |none=>
  have h1:x.Kind≠1:=fun h1=>by
   have e:x.Kids=[]:=List.length_eq_zero_iff.1 (by omega)
   rw[e,mE] at hm
   cases hm
  rw[if_neg h1]
 |some r=>
  obtain⟨rl,rg⟩:=oy hm
  have small:∀i,i<x.Kids.length→dC (r.getD i []):=fun i hi=>by rw[(rg i hi).2];exact A9 hl _
  dsimp only[List.nil_append]
  have N:=now_i l hl
  rcases kind with⟨a,b⟩|⟨a,b⟩|⟨a,b⟩|⟨a,b⟩|⟨a,b⟩|⟨a,b⟩|⟨a,b,c⟩
  ·rw[a]
   simp only[if_true,if_false,show ¬(1:Int)=2 by omega,show ¬(1:Int)=3 by omega,show ¬(1:Int)=4 by omega,show ¬(1:Int)=5 by omega,show ¬(1:Int)=6 by omega,show ¬(1:Int)=7 by omega]
   rw[zJ k hkk x l hl]
   rfl
  ·have s0:=small 0 (by omega);have s1:=small 1 (by omega)
   have g0:=getD_some (r:=r) (d:=[]) (i:=0) (by omega);have g1:=getD_some (r:=r) (d:=[]) (i:=1) (by omega)
   rw[a];unfold jx
   simp only[if_true,if_false,show ¬(2:Int)=1 by omega]
   rw[ae (by omega),ae (by omega),g0]
   simp only[Option.bind_some]
   rw[ae (by omega),ae (by omega),g1]
   simp only[Option.bind_some]
   rw[xX k hkk _ _ s0 s1]
   rfl
  ·have s0:=small 0 (by omega);have s1:=small 1 (by omega)
   have g0:=getD_some (r:=r) (d:=[]) (i:=0) (by omega);have g1:=getD_some (r:=r) (d:=[]) (i:=1) (by omega)
   rw[a];unfold jx
   simp only[if_true,if_false,show ¬(3:Int)=1 by omega,show ¬(3:Int)=2 by omega]
   rw[ae (by omega),ae (by omega),g0]
   simp only[Option.bind_some]
   rw[ae (by omega),ae (by omega),g1]
   simp only[Option.bind_some]
   rw[yg k hkk mode hmo _ _ s0 s1]
   rfl
  ·have s0:=small 0 (by omega);have s1:=small 1 (by omega)
   have g0:=getD_some (r:=r) (d:=[]) (i:=0) (by omega);have g1:=getD_some (r:=r) (d:=[]) (i:=1) (by omega)
   rw[a];unfold jx
   simp only[if_true,if_false,show ¬(4:Int)=1 by omega,show ¬(4:Int)=2 by omega,show ¬(4:Int)=3 by omega]
   rw[ae (by omega),ae (by omega),g0]
   simp only[Option.bind_some]
   rw[ae (by omega),ae (by omega),g1]
   simp only[Option.bind_some]
   rw[zb k hkk mode hmo _ _ s0 s1]
   rfl
  ·have s0:=small 0 (by omega);have s1:=small 1 (by omega);have s2:=small 2 (by omega)
   have g0:=getD_some (r:=r) (d:=[]) (i:=0) (by omega);have g1:=getD_some (r:=r) (d:=[]) (i:=1) (by omega);have g2:=getD_some (r:=r) (d:=[]) (i:=2) (by omega)
   rw[a];unfold jx
   simp only[if_true,if_false,show ¬(5:Int)=1 by omega,show ¬(5:Int)=2 by omega,show ¬(5:Int)=3 by omega,show ¬(5:Int)=4 by omega]
   rw[ae (by omega),ae (by omega),g0]
   simp only[Option.bind_some]
   rw[ae (by omega),ae (by omega),g1]
   simp only[Option.bind_some]
   rw[ae (by omega),ae (by omega),g2]
   simp only[Option.bind_some]
   rw[zo k hkk mode hmo _ _ _ s0 s1 s2]
   rfl
  ·have s0:=small 0 (by omega);have s1:=small 1 (by omega);have s2:=small 2 (by omega)
   have g0:=getD_some (r:=r) (d:=[]) (i:=0) (by omega);have g1:=getD_some (r:=r) (d:=[]) (i:=1) (by omega);have g2:=getD_some (r:=r) (d:=[]) (i:=2) (by omega)
   rw[a];unfold jx
   simp only[if_true,if_false,show ¬(6:Int)=1 by omega,show ¬(6:Int)=2 by omega,show ¬(6:Int)=3 by omega,show ¬(6:Int)=4 by omega,show ¬(6:Int)=5 by omega]
   rw[ae (by omega),ae (by omega),g0]
   simp only[Option.bind_some]
   rw[ae (by omega),ae (by omega),g1]
   simp only[Option.bind_some]
   rw[ae (by omega),ae (by omega),g2]
   simp only[Option.bind_some]
   rw[w6 k hkk mode hmo _ _ _ s0 s1 s2]
   rfl
  ·have s0:=small 0 (by omega)
   have g0:=getD_some (r:=r) (d:=[]) (i:=0) (by omega)
   rw[a];unfold jx
   simp only[if_true,if_false,show ¬(7:Int)=1 by omega,show ¬(7:Int)=2 by omega,show ¬(7:Int)=3 by omega,show ¬(7:Int)=4 by omega,show ¬(7:Int)=5 by omega,show ¬(7:Int)=6 by omega]
   rw[ae (by omega),ae (by omega),g0,N]
   simp only[Option.bind_some]
   rw[u9 k hkk _ _ _ s0]
   rfl
theorem xh (k:Nat) (hk:2000000000000≤k) (x:GEx) (mode:Int) (l:List GEv) (hx:exN x≤1000000) (hl:l.length≤1000000):iG.f k x mode l=some (kN x mode l):=by
 unfold iG.f kN
 rw[oa x (by omega) k (by omega),qE k (by omega) l hl,(nV mode).1]
 simp only[Option.bind_some]
 by_cases h1:jB x=true
 ·rw[if_pos h1]
  by_cases h2:0≤mode∧mode≤4
  ·rw[if_pos (by simp[h2])]
   by_cases h3:gL l=true
   ·have hf:=iW h1
    rw[if_pos h3,if_pos ⟨h1,h2,h3⟩,Ft mode h2 l (by omega) x (by omega) hf.2 k (by omega)]
    rfl
   ·rw[if_neg h3,if_neg (fun h=>h3 h.2.2)]
  ·rw[if_neg (by simpa using h2),if_neg (fun h=>h2 h.2.1)]
 ·rw[if_neg h1,if_neg (fun h=>h1 h.1)]
end Go.Proofs.YtlbnmldopjadoaaGreat
