/- Plain lemmas about the functions over data; first part. -/
import Derived.Test.YtlbnmldopjadoaaGreatL
namespace Go.Proofs.YtlbnmldopjadoaaGreat
open Go Go.Vm
set_option linter.unusedVariables false
set_option linter.unusedSimpArgs false
theorem wr (x:Int) (h: -9223372036854775808≤x∧x<9223372036854775808):IntKind.wrap .i64 x=x:=HY h
theorem wrS (i:Nat) (h:i<4611686018427387904):IntKind.wrap .i64 ((i:Int)+1)=((i+1:Nat):Int):=by rw[wr _ qom];simp
theorem wrP (i:Nat) (h:i<4611686018427387904):IntKind.wrap .i64 (((i+1:Nat):Int)-1)=(i:Int):=by rw[wr _ qom];simp
/- events -/
def jY (e:GEv):Bool:=decide (0≤e.Sym)&&decide (e.Sym<5)&&decide (1≤e.At)&&decide (e.At≤1000)&&decide (0≤e.Val)&&decide (e.Val≤100)
theorem A3 (e:GEv):ng.f e=some (jY e):=by
 unfold ng.f jY
 repeat' split
 all_goals (rw[qzh,qzP];simp;omega)
theorem fi (a b c:Int):bw.f a b c=some (decide (b≤a)&&decide (a≤c)):=by
 unfold bw.f
 split
 all_goals (rw[qzh,qzP];simp;omega)
theorem Bi (e:GEv):mX.f e=some (jY e):=by
 unfold mX.f eM.f jY
 simp only[fi,qzb]
 repeat' split
 all_goals (rw[qzh,qzP];simp_all;try omega)
def j5 (l:List GEv) (a:Int):Nat→Bool
 |0=>true
 |j+1=>match l[j]? with
  |some d=>decide (d.At<a)
  |none=>false
def jr (l:List GEv) (i:Nat):Bool:=match l[i]? with
 |some e=>jY e&&j5 l e.At i
 |none=>false
def fH (l:List GEv):Bool:=(List.range' 0 l.length).all (jr l)&&decide (l.length≤24)
theorem wB (k:Nat) (l:List GEv) (hl:l.length<4611686018427387904):∀(d n i:Nat),i+d=l.length→d<n→
  d8.l0 k l n (i:Int)=some (if(List.range' i d).all (jr l) then .ok () else .error false):=by
 intro d
 induction d with
 |zero=>
  intro n i hi hn
  obtain⟨n,rfl⟩:=qsc n
  rw[d8.l0,if_neg qom];simp
 |succ d ih=>
  intro n i hi hn
  obtain⟨n,rfl⟩:=qsc n
  have hlt:i<l.length:=by omega
  have hnext:=ih n (i+1) qom qom
  rw[d8.l0,if_pos qom,ac qom,qzd,qzc hlt]
  simp only[qzb,A3,rP,qzK]
  have hg:jr l i=(jY l[i]&&j5 l l[i].At i):=by unfold jr;rw[qzc hlt]
  rw[hg]
  cases hok:jY l[i]
  ·simp
  ·cases i with
   |zero=>simp only[if_true];rw[if_neg qom,wrS 0 qom,hnext];simp only[j5,qzk]
   |succ j=>
    simp only[if_true]
    rw[if_pos qom,ac qom]
    simp only[wrP j qom]
    rw[ac qom,qzd,qzc (show j<l.length by omega)]
    simp only[qzb]
    have hp:j5 l l[j+1].At (j+1)=decide (l[j].At<l[j+1].At):=by simp only[j5,qzc (show j<l.length by omega)]
    rw[hp]
    by_cases h:l[j].At<l[j+1].At
    ·rw[if_pos h,wrS (j+1) qom,hnext];simp only[h,decide_true,qzk]
    ·rw[if_neg h];simp only[h,decide_false,qzk,Bool.false_and];rfl
theorem wj (k:Nat) (l:List GEv) (hl:l.length<4611686018427387904):∀(d n i:Nat),i+d=l.length→d<n→
  dW.l0 k l n (i:Int)=some (if(List.range' i d).all (jr l) then .ok () else .error false):=by
 intro d
 induction d with
 |zero=>
  intro n i hi hn
  obtain⟨n,rfl⟩:=qsc n
  rw[dW.l0,if_neg qom];simp
 |succ d ih=>
  intro n i hi hn
  obtain⟨n,rfl⟩:=qsc n
  have hlt:i<l.length:=by omega
  have hnext:=ih n (i+1) qom qom
  rw[dW.l0,if_pos qom,ac qom,qzd,qzc hlt]
  simp only[qzb,Bi,rP,qzK]
  have hg:jr l i=(jY l[i]&&j5 l l[i].At i):=by unfold jr;rw[qzc hlt]
  rw[hg]
  cases hok:jY l[i]
  ·simp
  ·cases i with
   |zero=>simp only[if_true];rw[if_neg qom,wrS 0 qom,hnext];simp only[j5,qzk]
   |succ j=>
    simp only[if_true]
    rw[if_pos qom]
    simp only[wrP j qom]
    rw[ac qom,qzd,qzc (show j<l.length by omega)]
    simp only[qzb]
    have hp:j5 l l[j+1].At (j+1)=decide (l[j].At<l[j+1].At):=by simp only[j5,qzc (show j<l.length by omega)]
    rw[hp]
    by_cases h:l[j].At<l[j+1].At
    ·rw[if_pos h,wrS (j+1) qom,hnext];simp only[h,decide_true,qzk]
    ·rw[if_neg h];simp only[h,decide_false,qzk,Bool.false_and];rfl
theorem dV {l:List GEv} (h:fH l=true):l.length≤24:=by
 unfold fH at h;simp at h;exact h.2
theorem vr {l:List GEv} (h:fH l=true) {e:GEv} (he:e∈l):jY e=true:=by
 unfold fH at h
 simp only[qzf,qzN,List.mem_range',decide_eq_true_eq] at h
 obtain⟨i,hi⟩:=List.mem_iff_getElem?.1 he
 have hlt:i<l.length:=by
  rcases qzM i l.length with h1|h1
  ·exact h1
  ·rw[qzR h1] at hi;cases hi
 have:=h.1 i ⟨i,hlt,by omega⟩
 unfold jr at this
 rw[hi] at this
 simp only[qzf] at this
 exact this.1
def cR:List Int→List Int→Int
 |[],[]=>0
 |[],_::_=> -1
 |_::_,[]=>1
 |x::xs,y::ys=>if x<y then -1 else if y<x then 1 else cR xs ys
theorem uG:∀l,cR l l=0
 |[]=>rfl
 |x::xs=>by simp[cR,uG xs]
theorem DV (k:Nat) (a b:List Int) (ha:a.length<4611686018427387904):∀(d n i:Nat),i+d=a.length→i≤b.length→d<n→
  ((ea.l0 k a b n (i:Int)).bind fun o=>match o with
   | .ok _=>(if(a.length:Int)<(b.length:Int) then some (-1) else(if(b.length:Int)<(a.length:Int) then some 1 else some 0))
   | .error r=>some r)=some (cR (a.drop i) (b.drop i)):=by
 intro d
 induction d with
 |zero=>
  intro n i hi hb hn
  obtain⟨n,rfl⟩:=qsc n
  rw[ea.l0,if_neg qom,qzn qom]
  simp only[qzb]
  cases h:b.drop i with
  |nil=>
   have:b.length≤i:=List.drop_eq_nil_iff.1 h
   rw[if_neg qom,if_neg qom];rfl
  |cons y ys=>
   have:i<b.length:=by
    rcases qzM i b.length with h1|h1
    ·exact h1
    ·rw[qzn h1] at h;cases h
   rw[if_pos qom];rfl
 |succ d ih=>
  intro n i hi hb hn
  obtain⟨n,rfl⟩:=qsc n
  have hlt:i<a.length:=by omega
  rw[ea.l0,if_pos qom,qzj hlt]
  by_cases h:i<b.length
  ·rw[if_pos qom,ac qom,qzd,qzc hlt]
   simp only[qzb]
   rw[ac qom,qzc h,qzj h]
   simp only[qzb,cR]
   by_cases h1:a[i]<b[i]
   ·rw[if_pos h1,if_pos h1];rfl
   ·rw[if_neg h1,if_neg h1,ac qom]
    try simp only[qzb]
    rw[ac qom]
    try simp only[qzb]
    by_cases h2:b[i]<a[i]
    ·rw[if_pos h2,if_pos h2];rfl
    ·rw[if_neg h2,if_neg h2,wrS i qom]
     exact ih n (i+1) qom qom qom
  ·rw[if_neg qom,qzn (show b.length≤i by omega)]
   simp only[qzb,cR]
   rw[if_neg qom,if_pos qom]
theorem AB (a b:List Int) (ha:a.length<4611686018427387904) (k:Nat) (hk:a.length+1≤k):ea.f k a b=some (cR a b):=by
 unfold ea.f
 have:=DV k a b ha a.length k 0 qom qom qom
 rw[show((0:Nat):Int)=0 from rfl] at this
 exact this
theorem Ik (a b:Int):kG.f a b=some (if a<b then -1 else if b<a then 1 else 0):=by
 unfold kG.f mZ.f
 by_cases h:a<b
 ·simp[h]
 ·by_cases h2:b<a <;> simp[h,h2]
theorem zq (k:Nat) (a b:List Int) (ha:a.length<4611686018427387904):∀(d n i:Nat),i+d=a.length→i≤b.length→d<n→
  ((cI.l0 k a b n (i:Int)).bind fun o=>match o with
   | .ok _=>(if(a.length:Int)<(b.length:Int) then some (-1) else some 0)
   | .error r=>some r)=some (cR (a.drop i) (b.drop i)):=by
 intro d
 induction d with
 |zero=>
  intro n i hi hb hn
  obtain⟨n,rfl⟩:=qsc n
  rw[cI.l0,if_neg qom,qzn qom]
  simp only[qzb]
  cases h:b.drop i with
  |nil=>
   have:b.length≤i:=List.drop_eq_nil_iff.1 h
   rw[if_neg qom];rfl
  |cons y ys=>
   have:i<b.length:=by
    rcases qzM i b.length with h1|h1
    ·exact h1
    ·rw[qzn h1] at h;cases h
   rw[if_pos qom];rfl
 |succ d ih=>
  intro n i hi hb hn
  obtain⟨n,rfl⟩:=qsc n
  have hlt:i<a.length:=by omega
  rw[cI.l0,if_pos qom,qzj hlt,ac qom,qzd,qzc hlt]
  simp only[qzb]
  by_cases h:i<b.length
  ·rw[if_pos qom,ac qom,qzc h,qzj h]
   simp only[qzb,cR,Ik]
   by_cases h1:a[i]<b[i]
   ·rw[if_pos h1,if_pos h1,if_neg (by decide)];rfl
   ·rw[if_neg h1,if_neg h1]
    by_cases h2:b[i]<a[i]
    ·rw[if_pos h2,if_pos h2,if_neg (by decide)];rfl
    ·rw[if_neg h2,if_neg h2,if_pos rfl,wrS i qom]
     exact ih n (i+1) qom qom qom
  ·rw[if_neg qom,qzn (show b.length≤i by omega)]
   simp only[qzb,cR]
theorem Ck (a b:List Int) (ha:a.length<4611686018427387904) (k:Nat) (hk:a.length+1≤k):cI.f k a b=some (cR a b):=by
 unfold cI.f
 have:=zq k a b ha a.length k 0 qom qom qom
 rw[show((0:Nat):Int)=0 from rfl] at this
 exact this
def sgn (b:Bool):Int:=if b then -1 else 1
def bx (a b:GOcc):Int:=if a.To=b.To then(if a.From=b.From then cR a.Ids b.Ids else sgn (decide (a.From<b.From))) else sgn (decide (a.To<b.To))
def bK (a b:GOcc):Bool:=decide (bx a b<0)
theorem ky (a:GOcc):bx a a=0:=by simp[bx,uG]
theorem oY (a b:GOcc) (ha:a.Ids.length<4611686018427387904) (k:Nat) (hk:a.Ids.length+1≤k):ek.f k a b=some (bx a b):=by
 unfold ek.f bx mY.f sgn
 rw[Ck _ _ ha k hk]
 split
 ·split
  ·rfl
  ·by_cases h:a.From<b.From <;> simp[h]
 ·by_cases h:a.To<b.To <;> simp[h]
theorem vS (a b:GOcc) (ha:a.Ids.length<4611686018427387904) (k:Nat) (hk:a.Ids.length+1≤k):jN.f k a b=some (bK a b):=by
 unfold jN.f
 rw[oY a b ha k hk];rfl
theorem pu (a b:GOcc) (ha:a.Ids.length<4611686018427387904) (k:Nat) (hk:a.Ids.length+1≤k):gE.f k a b=some (bK a b):=by
 unfold gE.f bK bx sgn
 rw[AB _ _ ha k hk]
 split
 ·split
  ·rfl
  ·by_cases h:a.From<b.From <;> simp[h]
 ·by_cases h:a.To<b.To <;> simp[h]
/-- numbers that rise from above p, below 24 -/
def fj:Int→List Int→Bool
 |_,[]=>true
 |p,x::xs=>decide (p<x)&&decide (x≤23)&&fj x xs
theorem sF:∀(l:List Int) (p:Int), -1≤p→p≤23→fj p l=true→(l.length:Int)≤23-p
 |[],p,_,h,_=>by simp;omega
 |x::xs,p,h0,h1,h=>by
  simp only[fj,qzf,decide_eq_true_eq] at h
  have:=sF xs x qom qom h.2
  simp only[qzm];push_cast;omega
def dx (o:GOcc):Bool:=decide (1≤o.From)&&decide (o.From≤o.To)&&decide (o.To≤2000)&&decide (1≤o.Ids.length)&&fj (-1) o.Ids
theorem wE (k:Nat) (o:GOcc) (hl:o.Ids.length<4611686018427387904):∀(d n i:Nat) (p:Int),i+d=o.Ids.length→d<n→ -1≤p→p≤23→
  dZ.l0 k o n p (i:Int)=some (if fj p (o.Ids.drop i) then .ok () else .error false):=by
 intro d
 induction d with
 |zero=>
  intro n i p hi hn _ _
  obtain⟨n,rfl⟩:=qsc n
  rw[dZ.l0,if_neg qom,qzn qom];rfl
 |succ d ih=>
  intro n i p hi hn h0 h1
  obtain⟨n,rfl⟩:=qsc n
  have hlt:i<o.Ids.length:=by omega
  rw[dZ.l0,if_pos qom,ac qom,qzd,qzc hlt,qzj hlt]
  simp only[qzb,fi]
  rw[wr (p+1) qom]
  by_cases h:p<o.Ids[i]∧o.Ids[i]≤23
  ·have e:(decide (p+1≤o.Ids[i])&&decide (o.Ids[i]≤23))=true:=by simp;omega
   have e2:fj p (o.Ids[i]::o.Ids.drop (i+1))=fj o.Ids[i] (o.Ids.drop (i+1)):=by simp[fj,h.1,h.2]
   rw[if_pos e,wrS i qom,ih n (i+1) _ qom qom qom qom,e2]
  ·have e:¬(decide (p+1≤o.Ids[i])&&decide (o.Ids[i]≤23))=true:=by simp;omega
   rw[if_neg e]
   have e2:fj p (o.Ids[i]::o.Ids.drop (i+1))=false:=by
    have:(decide (p<o.Ids[i])&&decide (o.Ids[i]≤23))=false:=by
     rw[Bool.eq_false_iff];simpa using h
    show(decide (p<o.Ids[i])&&decide (o.Ids[i]≤23)&&_)=false
    rw[this];rfl
   rw[e2];rfl
theorem ny (o:GOcc) (hl:o.Ids.length<4611686018427387904) (k:Nat) (hk:o.Ids.length+1≤k):dZ.f k o=some (dx o):=by
 unfold dZ.f dx
 have:=wE k o hl o.Ids.length k 0 (-1) qom qom qom qom
 rw[show((0:Nat):Int)=0 from rfl,qzB] at this
 rw[this]
 cases fj (-1) o.Ids
 ·simp
 ·simp only[if_true,qzb,Bool.and_true,fi]
  by_cases h1:o.From<1
  ·rw[if_pos h1];have:¬1≤o.From:=by omega
   simp[this]
  ·rw[if_neg h1]
   have e1:1≤o.From:=by omega
   by_cases h2:o.From≤o.To∧o.To≤2000
   ·simp only[h2.1,h2.2,e1,decide_true,Bool.and_true,if_true,qzk,qzh]
    rw[qzP];simp;omega
   ·have:(decide (o.From≤o.To)&&decide (o.To≤2000))=false:=by rw[Bool.eq_false_iff];simpa using h2
    rw[Bool.and_assoc (decide (1≤o.From)),this]
    simp
/-- what stands before place i -/
def jk (l:List Int):Nat→Int
 |0=> -1
 |j+1=>l.getD j 0
theorem wK (k:Nat) (o:GOcc) (hl:o.Ids.length<4611686018427387904):∀(d n i:Nat),i+d=o.Ids.length→d<n→ -1≤jk o.Ids i→
  dH.l0 k o n (i:Int)=some (if fj (jk o.Ids i) (o.Ids.drop i) then .ok () else .error false):=by
 intro d
 induction d with
 |zero=>
  intro n i hi hn _
  obtain⟨n,rfl⟩:=qsc n
  rw[dH.l0,if_neg qom,qzn qom];rfl
 |succ d ih=>
  intro n i hi hn h0
  obtain⟨n,rfl⟩:=qsc n
  have hlt:i<o.Ids.length:=by omega
  have hp:jk o.Ids (i+1)=o.Ids[i]:=by simp[jk,List.getD,qzc hlt]
  rw[dH.l0,if_pos qom,ac qom,qzd,qzc hlt,qzj hlt]
  simp only[qzb]
  by_cases h1:o.Ids[i]<0
  ·rw[if_pos h1]
   have:¬jk o.Ids i<o.Ids[i]:=by omega
   simp[fj,this]
  rw[if_neg h1,ac qom]
  by_cases h2:o.Ids[i]<24
  ·rw[if_pos h2]
   have e2:o.Ids[i]≤23:=by omega
   have hnext:=ih n (i+1) qom qom (by rw[hp];omega)
   rw[hp] at hnext
   cases i with
   |zero=>
    rw[if_neg qom,wrS 0 qom,hnext]
    have:jk o.Ids 0<o.Ids[0]:=by simp[jk];omega
    simp[fj,this,e2]
   |succ j=>
    rw[if_pos qom,ac qom]
    try simp only[qzb]
    simp only[wrP j qom]
    rw[ac qom,qzd,qzc (show j<o.Ids.length by omega)]
    simp only[qzb]
    have hj:jk o.Ids (j+1)=o.Ids[j]:=by simp[jk,List.getD,qzc (show j<o.Ids.length by omega)]
    rw[hj]
    by_cases h3:o.Ids[j]<o.Ids[j+1]
    ·rw[if_pos h3,wrS (j+1) qom,hnext];simp[fj,h3,e2]
    ·rw[if_neg h3];simp[fj,h3]
  ·rw[if_neg h2]
   have:¬o.Ids[i]≤23:=by omega
   simp[fj,this]
theorem rM (o:GOcc) (hl:o.Ids.length<4611686018427387904) (k:Nat) (hk:o.Ids.length+1≤k):dH.f k o=some (dx o):=by
 unfold dH.f dx
 by_cases h1:o.From<1
 ·rw[if_pos h1];have:¬1≤o.From:=by omega
  simp[this]
 rw[if_neg h1]
 have e1:1≤o.From:=by omega
 by_cases h2:o.To<o.From
 ·rw[if_pos h2];have:¬o.From≤o.To:=by omega
  simp[this]
 rw[if_neg h2]
 have e2:o.From≤o.To:=by omega
 by_cases h3:2000<o.To
 ·rw[if_pos h3];have:¬o.To≤2000:=by omega
  simp[this]
 rw[if_neg h3]
 have e3:o.To≤2000:=by omega
 by_cases h4:(o.Ids.length:Int)<1
 ·rw[if_pos h4];have:¬1≤o.Ids.length:=by omega
  simp[this]
 rw[if_neg h4]
 have e4:1≤o.Ids.length:=by omega
 simp only[e1,e2,e3,e4,decide_true,qzk]
 by_cases h5:(24:Int)<o.Ids.length
 ·rw[if_pos h5]
  cases h:fj (-1) o.Ids
  ·rfl
  ·have:=sF o.Ids (-1) qom qom h;omega
 rw[if_neg h5]
 have:=wK k o hl o.Ids.length k 0 qom qom (by simp[jk])
 rw[show((0:Nat):Int)=0 from rfl,qzB] at this
 rw[this]
 show _=some (fj (jk o.Ids 0) o.Ids)
 cases fj (jk o.Ids 0) o.Ids <;> rfl
def iC (l:List GOcc) (a:GOcc):Nat→Bool
 |0=>true
 |j+1=>match l[j]? with
  |some d=>bK d a
  |none=>false
def iy (l:List GOcc) (i:Nat):Bool:=match l[i]? with
 |some e=>dx e&&iC l e i
 |none=>false
def dA (l:List GOcc):Bool:=(List.range' 0 l.length).all (iy l)&&decide (l.length≤40)
def Ap (l:List GOcc) (m:Nat):Prop:=∀o∈l,o.Ids.length≤m
theorem vd (k:Nat) (l:List GOcc) (hl:l.length<4611686018427387904) (m:Nat) (hm:Ap l m) (hm2:m<4611686018427387904) (hk:m+1≤k):∀(d n i:Nat),i+d=l.length→d<n→
  bR.l0 k l n (i:Int)=some (if(List.range' i d).all (iy l) then .ok () else .error false):=by
 intro d
 induction d with
 |zero=>
  intro n i hi hn
  obtain⟨n,rfl⟩:=qsc n
  rw[bR.l0,if_neg qom];simp
 |succ d ih=>
  intro n i hi hn
  obtain⟨n,rfl⟩:=qsc n
  have hlt:i<l.length:=by omega
  have hnext:=ih n (i+1) qom qom
  have hb:=hm l[i] (qze hlt)
  rw[bR.l0,if_pos qom,ac qom,qzd,qzc hlt]
  simp only[qzb,ny l[i] qom k qom,rP,qzK]
  have hg:iy l i=(dx l[i]&&iC l l[i] i):=by unfold iy;rw[qzc hlt]
  rw[hg]
  cases hok:dx l[i]
  ·simp
  ·cases i with
   |zero=>simp only[if_true];rw[if_neg qom,wrS 0 qom,hnext];simp only[iC,qzk]
   |succ j=>
    simp only[if_true]
    have hb2:=hm l[j] (qze qom)
    rw[if_pos qom]
    simp only[wrP j qom]
    rw[ac qom,qzd,qzc (show j<l.length by omega)]
    simp only[qzb,vS l[j] l[j+1] qom k qom]
    have hp:iC l l[j+1] (j+1)=bK l[j] l[j+1]:=by simp only[iC,qzc (show j<l.length by omega)]
    rw[hp]
    cases bK l[j] l[j+1]
    ·simp
    ·simp only[if_true];rw[wrS (j+1) qom,hnext];simp only[qzk]
theorem yh (l:List GOcc) (hl:l.length<4611686018427387904) (m:Nat) (hm:Ap l m) (hm2:m<4611686018427387904) (k:Nat) (hk:m+l.length+1≤k):bR.f k l=some (dA l):=by
 unfold bR.f dA
 have:=vd k l hl m hm hm2 qom l.length k 0 qom qom
 rw[show((0:Nat):Int)=0 from rfl] at this
 rw[this]
 cases(List.range' 0 l.length).all (iy l)
 ·simp
 ·simp only[if_true,qzb,qzk,qzh]
  rw[qzP];simp;omega
theorem vq (k:Nat) (l:List GOcc) (hl:l.length<4611686018427387904) (m:Nat) (hm:Ap l m) (hm2:m<4611686018427387904) (hk:m+1≤k):∀(d n i:Nat),i+d=l.length→d<n→
  bZ.l0 k l n (i:Int)=some (if(List.range' i d).all (iy l) then .ok () else .error false):=by
 intro d
 induction d with
 |zero=>
  intro n i hi hn
  obtain⟨n,rfl⟩:=qsc n
  rw[bZ.l0,if_neg qom];simp
 |succ d ih=>
  intro n i hi hn
  obtain⟨n,rfl⟩:=qsc n
  have hlt:i<l.length:=by omega
  have hnext:=ih n (i+1) qom qom
  have hb:=hm l[i] (qze hlt)
  rw[bZ.l0,if_pos qom,ac qom,qzd,qzc hlt]
  simp only[qzb,rM l[i] qom k qom,rP,qzK]
  have hg:iy l i=(dx l[i]&&iC l l[i] i):=by unfold iy;rw[qzc hlt]
  rw[hg]
  cases hok:dx l[i]
  ·simp
  ·cases i with
   |zero=>simp only[if_true];rw[if_neg qom,wrS 0 qom,hnext];simp only[iC,qzk]
   |succ j=>
    simp only[if_true]
    have hb2:=hm l[j] (qze qom)
    rw[if_pos qom]
    simp only[wrP j qom]
    rw[ac qom,qzd,qzc (show j<l.length by omega)]
    simp only[qzb]
    rw[ac qom]
    simp only[pu l[j] l[j+1] qom k qom,qzb]
    have hp:iC l l[j+1] (j+1)=bK l[j] l[j+1]:=by simp only[iC,qzc (show j<l.length by omega)]
    rw[hp]
    cases bK l[j] l[j+1]
    ·simp
    ·simp only[if_true];rw[wrS (j+1) qom,hnext];simp only[qzk]
theorem yn (l:List GOcc) (hl:l.length<4611686018427387904) (m:Nat) (hm:Ap l m) (hm2:m<4611686018427387904) (k:Nat) (hk:m+l.length+1≤k):bZ.f k l=some (dA l):=by
 unfold bZ.f dA
 by_cases h:(40:Int)<l.length
 ·rw[if_pos h];have:¬l.length≤40:=by omega
  simp[this]
 ·rw[if_neg h]
  have:=vq k l hl m hm hm2 qom l.length k 0 qom qom
  rw[show((0:Nat):Int)=0 from rfl] at this
  rw[this]
  have h':l.length≤40:=by omega
  cases(List.range' 0 l.length).all (iy l) <;> simp[h']
theorem jg {l:List GOcc} (h:dA l=true):l.length≤40:=by unfold dA at h;simp at h;exact h.2
theorem yX {l:List GOcc} (h:dA l=true) {i:Nat} (hi:i<l.length):dx l[i]=true∧iC l l[i] i=true:=by
 unfold dA at h
 simp only[qzf,qzN,List.mem_range'] at h
 have:=h.1 i ⟨i,by omega,by omega⟩
 unfold iy at this
 rw[qzc hi] at this
 simpa using this
theorem Eu {o:GOcc} (h:dx o=true):o.Ids.length≤24∧1≤o.From∧o.From≤o.To∧o.To≤2000:=by
 unfold dx at h
 simp only[qzf,decide_eq_true_eq] at h
 have:=sF o.Ids (-1) qom qom h.2
 omega
theorem Dx {l:List GOcc} (h:dA l=true):∀o∈l,o.Ids.length≤24∧1≤o.From∧o.From≤o.To∧o.To≤2000:=fun o ho=>by
 obtain⟨i,hi,rfl⟩:=List.mem_iff_getElem.1 ho
 exact Eu (yX h hi).1
theorem pG:∀a b,cR a b=0→a=b
 |[],[],_=>rfl
 |[],_::_,h=>by simp[cR] at h
 |_::_,[],h=>by simp[cR] at h
 |x::xs,y::ys,h=>by
  unfold cR at h
  split at h
  ·cases h
  split at h
  ·cases h
  rw[pG xs ys h,show x=y by omega]
theorem uz:∀a b,cR a b= -cR b a
 |[],[]=>rfl
 |[],_::_=>rfl
 |_::_,[]=>rfl
 |x::xs,y::ys=>by
  unfold cR
  by_cases h1:x<y
  ·rw[if_pos h1,if_neg qom,if_pos h1]
  by_cases h2:y<x
  ·rw[if_neg h1,if_pos h2,if_pos h2];rfl
  rw[if_neg h1,if_neg h2,if_neg h2,if_neg h1];exact uz xs ys
theorem sN:∀a b c,cR a b<0→cR b c<0→cR a c<0
 |[],[],_,h,_=>by simp[cR] at h
 |_::_,[],_,h,_=>by simp[cR] at h
 |_,_::_,[],_,h=>by simp[cR] at h
 |[],_::_,_::_,_,_=>by simp[cR]
 |x::xs,y::ys,z::zs,h,k=>by
  unfold cR at h k⊢
  by_cases h1:x<y
  ·by_cases k1:y<z
   ·rw[if_pos qom];omega
   ·rw[if_neg k1] at k
    split at k
    ·omega
    ·rw[if_pos qom];omega
  ·rw[if_neg h1] at h
   split at h
   ·omega
   ·by_cases k1:y<z
    ·rw[if_pos qom];omega
    ·rw[if_neg k1] at k
     split at k
     ·omega
     ·rw[if_neg qom,if_neg qom];exact sN xs ys zs h k
theorem kE {a b:GOcc} (h:bx a b=0):a=b:=by
 unfold bx at h
 split at h
 ·split at h
  ·obtain⟨a1,a2,a3⟩:=a;obtain⟨b1,b2,b3⟩:=b
   have:=pG _ _ h
   simp_all
  ·unfold sgn at h;split at h <;> cases h
 ·unfold sgn at h;split at h <;> cases h
theorem uB (a b:GOcc):bx a b= -bx b a:=by
 unfold bx sgn
 by_cases h1:a.To=b.To
 ·rw[if_pos h1,if_pos h1.symm]
  by_cases h2:a.From=b.From
  ·rw[if_pos h2,if_pos h2.symm];exact uz _ _
  ·rw[if_neg h2,if_neg (show ¬b.From=a.From from fun e=>h2 e.symm)]
   by_cases h3:a.From<b.From
   ·have:¬b.From<a.From:=by omega
    simp[h3,this]
   ·have:b.From<a.From:=by omega
    simp[h3,this]
 ·rw[if_neg h1,if_neg (show ¬b.To=a.To from fun e=>h1 e.symm)]
  by_cases h3:a.To<b.To
  ·have:¬b.To<a.To:=by omega
   simp[h3,this]
  ·have:b.To<a.To:=by omega
   simp[h3,this]
theorem zn (a b:GOcc):bx a b<0↔a.To<b.To∨(a.To=b.To∧(a.From<b.From∨(a.From=b.From∧cR a.Ids b.Ids<0))):=by
 unfold bx sgn
 by_cases h1:a.To=b.To
 ·rw[if_pos h1]
  by_cases h2:a.From=b.From
  ·rw[if_pos h2];simp[h1,h2]
  ·rw[if_neg h2]
   by_cases h3:a.From<b.From
   ·simp[h1,h3]
   ·simp[h1,h2,h3]
 ·rw[if_neg h1]
  by_cases h3:a.To<b.To
  ·simp[h3]
  ·simp[h1,h3]
theorem rx {a b c:GOcc} (h:bK a b=true) (k:bK b c=true):bK a c=true:=by
 unfold bK at *
 simp only[decide_eq_true_eq] at *
 rw[zn] at *
 rcases h with h|⟨h1,h⟩
 ·rcases k with k|⟨k1,k⟩
  ·exact .inl qom
  ·exact .inl qom
 ·rcases k with k|⟨k1,k⟩
  ·exact .inl qom
  ·refine .inr ⟨by omega,?_⟩
   rcases h with h|⟨h2,h⟩
   ·rcases k with k|⟨k2,k⟩
    ·exact .inl qom
    ·exact .inl qom
   ·rcases k with k|⟨k2,k⟩
    ·exact .inl qom
    ·exact .inr ⟨by omega,sN _ _ _ h k⟩
theorem yF (a:GOcc):bK a a=false:=by unfold bK;rw[ky];rfl
theorem zD {a b:GOcc} (h:bK a b=false) (hne:a≠b):bK b a=true:=by
 unfold bK at *
 simp only[decide_eq_true_eq,decide_eq_false_iff_not] at *
 have:=uB a b
 have:bx a b≠0:=fun e=>hne (kE e)
 omega
/-- an ordered list -/
def Asc (l:List GOcc):Prop:=l.Pairwise fun a b=>bK a b=true
def cJ:List GOcc→GOcc→List GOcc
 |[],o=>[o]
 |x::l,o=>if bK x o then x::cJ l o else if bx x o=0 then x::l else o::x::l
def cM (l m:List GOcc):List GOcc:=m.foldl cJ l
theorem gI {x o:GOcc}:∀{l:List GOcc},x∈cJ l o↔x∈l∨x=o
 |[]=>by simp[cJ]
 |y::l=>by
  unfold cJ
  split
  ·simp only[qzo,gI (l:=l),or_assoc]
  ·split
   ·rename_i h
    have:=kE h
    subst this
    simp only[qzo]
    constructor
    ·exact fun h=>.inl h
    ·rintro(h|rfl)
     ·exact h
     ·exact .inl rfl
   ·simp only[qzo]
    constructor
    ·rintro(h|h)
     ·exact .inr h
     ·exact .inl h
    ·rintro(h|h)
     ·exact .inr h
     ·exact .inl h
theorem mw {o:GOcc}:∀{l:List GOcc},Asc l→Asc (cJ l o)
 |[],_=>by simp[cJ,Asc]
 |y::l,h=>by
  have h':=List.pairwise_cons.1 h
  unfold cJ
  split
  ·rename_i h1
   refine List.pairwise_cons.2 ⟨fun z hz=>?_,mw h'.2⟩
   rcases gI.1 hz with h2|rfl
   ·exact h'.1 z h2
   ·exact h1
  ·split
   ·exact h
   ·rename_i h1 h2
    have h3:bK o y=true:=zD (by simpa using h1) (fun e=>h2 (by rw[e];exact ky _))
    refine List.pairwise_cons.2 ⟨fun z hz=>?_,h⟩
    rcases qzo.1 hz with rfl|h4
    ·exact h3
    ·exact rx h3 (h'.1 z h4)
theorem gu (o:GOcc):∀l:List GOcc,(cJ l o).length≤l.length+1
 |[]=>by simp[cJ]
 |y::l=>by
  have:=gu o l
  unfold cJ
  split
  ·simp;omega
  ·split <;> simp
theorem pM (l:List GOcc) (x:GOcc) (m:List GOcc):cM l (x::m)=cM (cJ l x) m:=rfl
theorem gU:∀{m l:List GOcc},Asc l→Asc (cM l m)
 |[],_,h=>h
 |x::m,l,h=>by rw[pM];exact gU (mw h)
theorem db:∀(m l:List GOcc),(cM l m).length≤l.length+m.length
 |[],_=>by simp[cM]
 |x::m,l=>by rw[pM];have:=db m (cJ l x);have:=gu x l;simp;omega
theorem lQ {x:GOcc}:∀{m l:List GOcc},x∈cM l m↔x∈l∨x∈m
 |[],l=>by simp[cM]
 |y::m,l=>by rw[pM,lQ,gI,qzo,or_assoc]
/-- where one stands or would stand -/
def bY (l:List GOcc) (o:GOcc):Nat:=(l.takeWhile fun x=>bK x o).length
theorem qz (l:List GOcc) (o:GOcc):bY l o≤l.length:=by unfold bY;exact(List.takeWhile_prefix _).length_le
theorem lv (o:GOcc):∀l:List GOcc,cJ l o=if ∃x,l[bY l o]? =some x∧bx x o=0 then l else l.take (bY l o)++[o]++l.drop (bY l o)
 |[]=>by simp[cJ,bY]
 |y::l=>by
  unfold cJ
  by_cases h:bK y o=true
  ·have e:bY (y::l) o=bY l o+1:=by unfold bY;rw[xp,if_pos h];rfl
   rw[if_pos h,e,lv o l]
   simp only[yz,List.take_succ_cons,List.drop_succ_cons]
   split <;> rfl
  ·have e:bY (y::l) o=0:=by unfold bY;rw[xp,if_neg h];rfl
   rw[if_neg h,e]
   simp only[qzs,vm,qzB,qzh,exists_eq_left']
   rfl
theorem pr {o:GOcc}:∀{l:List GOcc} {i:Nat},i<bY l o→∃x,l[i]? =some x∧bK x o=true
 |[],i,h=>by simp[bY] at h
 |y::l,i,h=>by
  by_cases hy:bK y o=true
  ·have e:bY (y::l) o=bY l o+1:=by unfold bY;rw[xp,if_pos hy];rfl
   cases i with
   |zero=>exact⟨y,rfl,hy⟩
   |succ i=>rw[e] at h;exact pr (l:=l) (i:=i) qom
  ·have e:bY (y::l) o=0:=by unfold bY;rw[xp,if_neg hy];rfl
   rw[e] at h;omega
theorem vl {l:List GOcc} {o:GOcc} (h:bY l o<l.length):bK l[bY l o] o=false:=by
 induction l with
 |nil=>simp at h
 |cons y l ih=>
  by_cases hy:bK y o=true
  ·have e:bY (y::l) o=bY l o+1:=by unfold bY;rw[xp,if_pos hy];rfl
   have:=ih (by rw[e] at h;simpa using h)
   simp only[e,qzE]
   exact this
  ·have e:bY (y::l) o=0:=by unfold bY;rw[xp,if_neg hy];rfl
   simp only[e,qzy]
   simpa using hy
theorem IO {l:List GOcc} {o:GOcc} (hs:Asc l) {i:Nat} (h1:bY l o≤i) (h2:i<l.length):bK l[i] o=false:=by
 have h3:=vl (l:=l) (o:=o) qom
 rcases qzM (bY l o) i with h4|h4
 ·have h5:bK l[bY l o] l[i]=true:=List.pairwise_iff_getElem.1 hs _ _ _ _ h4
  cases h6:bK l[i] o
  ·rfl
  ·rw[rx h5 h6] at h3;cases h3
 ·have:i=bY l o:=by omega
  subst this;exact h3
/-- a loop over a list -/
theorem Fp {α σ:Type} (l:List α) (body:σ→α→Option σ) (L:Nat→σ→Int→Option σ) (g:σ→α→σ) (Inv:Nat→σ→Prop)
  (hend:∀n s,L (n+1) s (l.length:Int)=some s)
  (hstep:∀n s (i:Nat) (h:i<l.length),L (n+1) s (i:Int)=(body s l[i]).bind fun s'=>L n s' ((i+1:Nat):Int))
  (hbody:∀i s (h:i<l.length),Inv i s→body s l[i]=some (g s l[i])∧Inv (i+1) (g s l[i])) :
  ∀(d i n:Nat) (s:σ),i+d=l.length→d<n→Inv i s→L n s (i:Int)=some ((l.drop i).foldl g s)∧Inv l.length ((l.drop i).foldl g s):=by
 intro d
 induction d with
 |zero=>
  intro i n s hi hn hI
  obtain⟨n,rfl⟩:=qsc n
  have e:i=l.length:=by omega
  subst e
  rw[hend,List.drop_length]
  exact⟨rfl,hI⟩
 |succ d ih=>
  intro i n s hi hn hI
  obtain⟨n,rfl⟩:=qsc n
  have hlt:i<l.length:=by omega
  obtain⟨h1,h2⟩:=hbody i s hlt hI
  rw[hstep n s i hlt,h1,qzj hlt]
  exact ih (i+1) n _ qom qom h2
theorem cD {α σ:Type} (l:List α) (body:σ→α→Option σ) (L:Nat→σ→Int→Option σ) (g:σ→α→σ) (Inv:Nat→σ→Prop)
  (hend:∀n s,L (n+1) s (l.length:Int)=some s)
  (hstep:∀n s (i:Nat) (h:i<l.length),L (n+1) s (i:Int)=(body s l[i]).bind fun s'=>L n s' ((i+1:Nat):Int))
  (hbody:∀i s (h:i<l.length),Inv i s→body s l[i]=some (g s l[i])∧Inv (i+1) (g s l[i])) (n:Nat) (s:σ) (hn:l.length<n) (hI:Inv 0 s) :
  L n s 0=some (l.foldl g s)∧Inv l.length (l.foldl g s):=by
 have:=Fp l body L g Inv hend hstep hbody l.length 0 n s qom hn hI
 simpa using this
/-- the numbers of one are few -/
abbrev Few (o:GOcc):Prop:=o.Ids.length≤1000
abbrev fZ (l:List GOcc):Prop:=∀o∈l,Few o
theorem Hp (a b:GOcc) (ha:Few a) (k:Nat) (hk:1000000000000≤k):ek.f k a b=some (bx a b):=oY a b qom k qom
theorem E9 (a b:GOcc) (ha:Few a) (k:Nat) (hk:1000000000000≤k):gE.f k a b=some (bK a b):=pu a b qom k qom
theorem B0 (a b:GOcc) (ha:Few a) (k:Nat) (hk:1000000000000≤k):ii.f k a b=some (decide (bx a b=0)):=by
 unfold ii.f bx sgn
 rw[AB _ _ qom k qom]
 by_cases h1:a.From=b.From
 ·rw[if_pos h1]
  by_cases h2:a.To=b.To
  ·rw[if_pos h2,if_pos h2,if_pos h1]
   by_cases h3:(a.Ids.length:Int)=b.Ids.length
   ·rw[if_pos h3];simp only[qzb]
    rw[qzh,qzP];simp
   ·rw[if_neg h3]
    have:cR a.Ids b.Ids≠0:=fun e=>h3 (by rw[pG _ _ e])
    simp[this]
  ·rw[if_neg h2,if_neg h2];split <;> simp
 ·rw[if_neg h1]
  by_cases h2:a.To=b.To
  ·rw[if_pos h2,if_neg h1];split <;> simp
  ·rw[if_neg h2];split <;> simp
theorem Iu (a b:Nat) (h:a+b<1000000000000000):IntKind.wrap .i64 (dG .shr .u64 (IntKind.wrap .u64 (IntKind.wrap .i64 ((a:Int)+(b:Int)))) 1)=(((a+b) / 2:Nat):Int):=by
 rw[show IntKind.wrap .i64 ((a:Int)+(b:Int))=(a:Int)+(b:Int) from wr _ qom]
 have e:IntKind.wrap .u64 ((a:Int)+(b:Int))=(a:Int)+(b:Int):=by
  show((a:Int)+(b:Int)) % 18446744073709551616=_
  exact Int.emod_eq_of_lt qom qom
 rw[e]
 have e2:dG .shr .u64 ((a:Int)+(b:Int)) 1=((a:Int)+(b:Int)).fdiv 2:=rfl
 rw[e2,Int.fdiv_eq_ediv_of_nonneg _ qom,wr _ qom]
 omega
theorem HR (k:Nat) (hk:1000000000000≤k) (l:List GOcc) (o:GOcc) (hl:l.length≤1000000000000) (hf:fZ l) (hs:Asc l):∀(d a b n:Nat),b-a≤d→a≤bY l o→bY l o≤b→b≤l.length→d<n→
  aI.l0 k (fun y0 y1=>ek.f k y0 y1) l o n (a:Int) (b:Int)=some ((bY l o:Nat):Int):=by
 intro d
 induction d with
 |zero=>
  intro a b n h1 h2 h3 h4 hn
  obtain⟨n,rfl⟩:=qsc n
  rw[aI.l0,if_neg qom,show a=bY l o by omega]
 |succ d ih=>
  intro a b n h1 h2 h3 h4 hn
  obtain⟨n,rfl⟩:=qsc n
  by_cases h:a<b
  ·have hm:(a+b) / 2<l.length:=by omega
   rw[aI.l0,if_pos qom,Iu a b qom,ac qom,ac qom,qzd,qzc hm]
   simp only[qzb,Hp _ o (hf _ (qze hm)) k hk]
   by_cases hc:bx l[(a+b) / 2] o<0
   ·rw[if_pos hc,wrS _ qom]
    refine ih _ b n qom ?_ h3 h4 qom
    rcases qzM ((a+b) / 2) (bY l o) with h5|h5
    ·omega
    ·have:=IO hs h5 hm
     unfold bK at this
     simp at this
     omega
   ·rw[if_neg hc]
    refine ih a _ n qom h2 ?_ qom qom
    rcases qzM ((a+b) / 2) (bY l o) with h5|h5
    ·obtain⟨x,e1,e2⟩:=pr h5
     rw[qzc hm,qzh] at e1
     subst e1
     unfold bK at e2
     simp at e2
     omega
    ·exact h5
  ·rw[aI.l0,if_neg qom,show a=bY l o by omega]
theorem Du (k:Nat) (hk:1000000000000≤k) (l:List GOcc) (o:GOcc) (hl:l.length≤100000000000) (hf:fZ l) (hs:Asc l) :
  aI.f (fun y0 y1=>ek.f k y0 y1) k l o=some (((bY l o:Nat):Int),decide (∃x,l[bY l o]? =some x∧bx x o=0)):=by
 unfold aI.f
 have hr:=qz l o
 have:=HR k hk l o qom hf hs l.length 0 l.length k qom qom hr (qzi _) qom
 rw[show((0:Nat):Int)=0 from rfl] at this
 rw[this]
 simp only[qzb]
 by_cases h:bY l o<l.length
 ·rw[if_pos qom,ac qom,qzd,qzc h]
  simp only[qzb,Hp _ o (hf _ (qze h)) k hk,qzh,oM,true_and]
  rw[qzP]
  simp
 ·rw[if_neg qom,qzR qom]
  simp
theorem kO (k:Nat) (hk:1000000000000≤k) (l:List GOcc) (o:GOcc) (hl:l.length≤100000000000) (hf:fZ l) (hs:Asc l):fk.f k l o=some (cJ l o):=by
 unfold fk.f
 rw[Du k hk l o hl hf hs]
 simp only[qzb]
 have hr:=qz l o
 by_cases h:∃x,l[bY l o]? =some x∧bx x o=0
 ·rw[if_pos (by simpa using h),lv,if_pos h]
 ·rw[if_neg (by simpa using h),lv,if_neg h]
  unfold lS.f jq.f
  rw[ac qom]
  simp only[qzb]
  rw[ac qom,ac qom,ac (show[o].length=1 from rfl),ac qom]
  rfl
theorem Ad (k:Nat) (hk:1000000000000≤k) (l:List GOcc) (o:GOcc) (hl:l.length≤100000000000) (hf:fZ l):∀(d i n:Nat),i+d=bY l o→d<n→
  cl.l0 k l o n (i:Int)=some ((bY l o:Nat):Int):=by
 have hr:=qz l o
 intro d
 induction d with
 |zero=>
  intro i n h1 hn
  obtain⟨n,rfl⟩:=qsc n
  have e:i=bY l o:=by omega
  subst e
  by_cases h:bY l o<l.length
  ·have h2:=vl h
   rw[cl.l0,if_pos qom,ac qom,ac qom,qzd,qzc h]
   simp only[qzb,E9 _ o (hf _ (qze h)) k hk,h2,qzw,if_false]
  ·rw[cl.l0,if_neg qom]
 |succ d ih=>
  intro i n h1 hn
  obtain⟨n,rfl⟩:=qsc n
  have h:i<l.length:=by omega
  obtain⟨x,e1,e2⟩:=pr (l:=l) (o:=o) (i:=i) qom
  rw[qzc h,qzh] at e1
  subst e1
  rw[cl.l0,if_pos qom,ac qom,ac qom,qzd,qzc h]
  simp only[qzb,E9 _ o (hf _ (qze h)) k hk,e2,if_true]
  rw[wrS i qom]
  exact ih (i+1) n qom qom
theorem oi (o:GOcc) (h:Few o):eE.f o=some o:=by
 unfold eE.f;rw[ac qom];rfl
theorem tZ (o:GOcc) (h:Few o):fb.f o=some o:=by
 unfold fb.f;exact ac qom
theorem mE (k:Nat) (hk:1000000000000≤k) (l:List GOcc) (o:GOcc) (hl:l.length≤100000000000) (hf:fZ l) (ho:Few o):cl.f k l o=some (cJ l o):=by
 unfold cl.f
 have hr:=qz l o
 have:=Ad k hk l o hl hf (bY l o) 0 k qom qom
 rw[show((0:Nat):Int)=0 from rfl] at this
 rw[this]
 simp only[qzb]
 by_cases h:bY l o<l.length
 ·rw[if_pos qom,ac qom,ac qom,qzd,qzc h]
  simp only[qzb,B0 _ o (hf _ (qze h)) k hk]
  by_cases h2:bx l[bY l o] o=0
  ·rw[if_pos (by simpa using h2),lv,if_pos ⟨_,qzc h,h2⟩]
  ·rw[if_neg (by simpa using h2),lv,if_neg (fun⟨x,e1,e2⟩=>h2 (by rw[qzc h,qzh] at e1;rw[e1];exact e2))]
   repeat rw[ac qom]
   rw[oi o ho]
   simp only[qzb]
   repeat rw[ac qom]
   try rw[qzd]
   rw[show(([]:List GOcc)++(l.drop (bY l o)).take ((l.length:Int)-((bY l o:Nat):Int)).toNat)=l.drop (bY l o) from qzD (by rw[qzU];omega)]
 ·rw[if_neg qom,lv,if_neg (fun⟨x,e1,e2⟩=>by rw[qzR qom] at e1;cases e1)]
  repeat rw[ac qom]
  rw[oi o ho]
  simp only[qzb]
  repeat rw[ac qom]
  try rw[qzd]
  rw[show(([]:List GOcc)++(l.drop (bY l o)).take ((l.length:Int)-((bY l o:Nat):Int)).toNat)=l.drop (bY l o) from qzD (by rw[qzU];omega)]
theorem yU {l:List GOcc} {o:GOcc} (h:fZ l) (ho:Few o):fZ (cJ l o):=fun x hx=>by
 rcases gI.1 hx with h1|rfl
 ·exact h x h1
 ·exact ho
theorem dk (k:Nat) (hk:1000000000000≤k) (l m:List GOcc) (hl:l.length+m.length≤90000000000) (hf:fZ l) (hm:fZ m) (hs:Asc l):bc.f k l m=some (cM l m):=by
 unfold bc.f
 have:=cD m (fun s e=>fk.f k s e) (bc.l0 k m) cJ (fun i s=>s.length≤l.length+i∧fZ s∧Asc s)
  (fun n s=>by rw[bc.l0,if_neg qom])
  (fun n s i h=>by rw[bc.l0,if_pos qom,ac qom,qzd,qzc h];simp only[qzb];rw[wrS i qom])
  (fun i s h hI=>⟨kO k hk s _ qom hI.2.1 hI.2.2,by have:=gu m[i] s;omega,yU hI.2.1 (hm _ (qze h)),mw hI.2.2⟩)
  k l qom ⟨by omega,hf,hs⟩
 rw[this.1];rfl
theorem ep (k:Nat) (hk:1000000000000≤k) (l m:List GOcc) (hl:l.length+m.length≤90000000000) (hf:fZ l) (hm:fZ m):aS.f k l m=some (cM l m):=by
 unfold aS.f
 have:=cD m (fun s e=>cl.f k s e) (aS.l0 k m) cJ (fun i s=>s.length≤l.length+i∧fZ s)
  (fun n s=>by rw[aS.l0,if_neg qom])
  (fun n s i h=>by rw[aS.l0,if_pos qom,ac qom,qzd,qzc h];simp only[qzb];rw[wrS i qom])
  (fun i s h hI=>⟨mE k hk s _ qom hI.2 (hm _ (qze h)),by have:=gu m[i] s;omega,yU hI.2 (hm _ (qze h))⟩)
  k l qom ⟨by omega,hf⟩
 rw[this.1];rfl
theorem zc {α:Type} (l acc:List α):l.foldl (fun s e=>s++[e]) acc=acc++l:=by
 induction l generalizing acc with
 |nil=>simp
 |cons x l ih=>rw[ox,ih];simp
theorem Cr (k:Nat) (hk:1000000000000≤k) (l:List GOcc) (hl:l.length≤90000000000) (hf:fZ l):bI.f k l=some l:=by
 unfold bI.f
 have:=cD l (fun s e=>(fb.f e).bind fun x28=>(req ((s.length+1) * 40≤140737488355328) (some (s++[x28])))) (bI.l0 k l) (fun s e=>s++[e]) (fun i s=>s.length=i)
  (fun n s=>by rw[bI.l0,if_neg qom])
  (fun n s i h=>by
   rw[bI.l0,if_pos qom,ac qom,qzd,qzc h];simp only[qzb];rw[wrS i qom,tZ _ (hf _ (qze h))];simp only[qzb]
   unfold req;split <;> rfl)
  (fun i s h hI=>⟨by rw[tZ _ (hf _ (qze h))];simp only[qzb];rw[ac qom],by simp[hI]⟩)
  k [] qom rfl
 rw[this.1,zc];rfl
theorem rE (k:Nat) (hk:1000000000000≤k) (l:List GOcc) (hl:l.length≤90000000000) (hf:fZ l):ck.f k l=some l:=by
 unfold ck.f
 have:=cD l (fun s e=>(eE.f e).bind fun x28=>(req ((s.length+1) * 40≤140737488355328) (some (s++[x28])))) (ck.l0 k l) (fun s e=>s++[e]) (fun i s=>s.length=i)
  (fun n s=>by rw[ck.l0,if_neg qom])
  (fun n s i h=>by
   rw[ck.l0,if_pos qom,ac qom,qzd,qzc h];simp only[qzb];rw[wrS i qom,oi _ (hf _ (qze h))];simp only[qzb]
   unfold req;split <;> rfl)
  (fun i s h hI=>⟨by rw[oi _ (hf _ (qze h))];simp only[qzb];rw[ac qom],by simp[hI]⟩)
  k [] qom rfl
 rw[this.1,zc];rfl
theorem qQ {l:List GOcc} (h:dA l=true):fZ l:=fun o ho=>by have:=Dx h o ho;omega
/-- what stands in both programs for a list that was handed on -/
def Hb (l:List GOcc):Prop:=l.length≤40000000000∧fZ l
theorem E3 (k:Nat) (hk:1000000000000≤k) (l:List GOcc) (h:Hb l):bR.f k l=some (dA l):=yh l (by have:=h.1;omega) 1000 h.2 qom k (by have:=h.1;omega)
theorem EL (k:Nat) (hk:1000000000000≤k) (l:List GOcc) (h:Hb l):bZ.f k l=some (dA l):=yn l (by have:=h.1;omega) 1000 h.2 qom k (by have:=h.1;omega)
/-- numbers that rise -/
abbrev Up (l:List Int):Prop:=l.Pairwise fun a b=>a<b
theorem AX:∀{a b:List Int},Up a→Up b→(∀x,x∈a↔x∈b)→a=b
 |[],[],_,_,_=>rfl
 |[],y::b,_,_,h=>by have:=(h y).2 (by simp);simp at this
 |x::a,[],_,_,h=>by have:=(h x).1 (by simp);simp at this
 |x::a,y::b,ha,hb,h=>by
  obtain⟨a1,a2⟩:=List.pairwise_cons.1 ha
  obtain⟨b1,b2⟩:=List.pairwise_cons.1 hb
  have e:x=y:=by
   have h1:=(h x).1 (by simp)
   have h2:=(h y).2 (by simp)
   rcases qzo.1 h1 with h1|h1
   ·exact h1
   ·rcases qzo.1 h2 with h2|h2
    ·exact h2.symm
    ·have:=b1 x h1;have:=a1 y h2;omega
  subst e
  rw[AX a2 b2 fun z=>?_]
  have hz:=h z
  simp only[qzo] at hz
  constructor
  ·intro h1
   rcases hz.1 (.inr h1) with h2|h2
   ·have:=a1 z h1;omega
   ·exact h2
  ·intro h1
   rcases hz.2 (.inr h1) with h2|h2
   ·have:=b1 z h1;omega
   ·exact h2
def dJ:List Int→List Int→List Int
 |[],b=>b
 |x::a,[]=>x::a
 |x::a,y::b=>if x<y then x::dJ a (y::b) else if x=y then y::dJ a b else y::dJ (x::a) b
termination_by a b=>a.length+b.length
theorem eN {z:Int}:∀{a b:List Int},z∈dJ a b↔z∈a∨z∈b
 |[],b=>by simp[dJ]
 |x::a,[]=>by simp[dJ]
 |x::a,y::b=>by
  unfold dJ
  split
  ·simp only[qzo,eN (a:=a) (b:=y::b),or_assoc]
  ·split
   ·rename_i h
    subst h
    simp only[qzo,eN (a:=a) (b:=b)]
    constructor
    ·rintro(h|h|h)
     ·exact .inl (.inl h)
     ·exact .inl (.inr h)
     ·exact .inr (.inr h)
    ·rintro((h|h)|(h|h))
     ·exact .inl h
     ·exact .inr (.inl h)
     ·exact .inl h
     ·exact .inr (.inr h)
   ·simp only[qzo,eN (a:=x::a) (b:=b)]
    constructor
    ·rintro(h|h|h)
     ·exact .inr (.inl h)
     ·exact .inl h
     ·exact .inr (.inr h)
    ·rintro(h|h|h)
     ·exact .inr (.inl h)
     ·exact .inl h
     ·exact .inr (.inr h)
termination_by a b=>a.length+b.length
theorem kf:∀{a b:List Int},Up a→Up b→Up (dJ a b)
 |[],b,_,h=>by simpa [dJ] using h
 |x::a,[],h,_=>by simpa [dJ] using h
 |x::a,y::b,ha,hb=>by
  obtain⟨a1,a2⟩:=List.pairwise_cons.1 ha
  obtain⟨b1,b2⟩:=List.pairwise_cons.1 hb
  unfold dJ
  split
  ·refine List.pairwise_cons.2 ⟨fun z hz=>?_,kf a2 hb⟩
   rcases eN.1 hz with h|h
   ·exact a1 z h
   ·rcases qzo.1 h with rfl|h
    ·assumption
    ·have:=b1 z h;omega
  ·split
   ·rename_i h1 h2
    refine List.pairwise_cons.2 ⟨fun z hz=>?_,kf a2 b2⟩
    rcases eN.1 hz with h|h
    ·have:=a1 z h;omega
    ·exact b1 z h
   ·refine List.pairwise_cons.2 ⟨fun z hz=>?_,kf ha b2⟩
    rcases eN.1 hz with h|h
    ·rcases qzo.1 h with rfl|h
     ·omega
     ·have:=a1 z h;omega
    ·exact b1 z h
termination_by a b=>a.length+b.length
theorem En {a b:List Int} (ha:Up a) (hb:Up b):dJ a b=dJ b a:=AX (kf ha hb) (kf hb ha) fun x=>by rw[eN,eN,or_comm]
theorem uN {z:Int}:∀{l:List Int},z∈uniq l↔z∈l
 |[]=>by simp[uniq]
 |[x]=>by simp[uniq]
 |x::y::l=>by
  have ih:=uN (z:=z) (l:=y::l)
  unfold uniq
  split
  ·rename_i h
   subst h
   rw[ih];simp
  ·rw[qzo,ih,qzo (a:=z) (b:=x)]
theorem xV:∀{l:List Int},l.Pairwise (fun a b=>a≤b)→Up (uniq l)
 |[],_=>by simp[uniq]
 |[x],_=>by simp[uniq]
 |x::y::l,h=>by
  obtain⟨h1,h2⟩:=List.pairwise_cons.1 h
  unfold uniq
  split
  ·exact xV h2
  ·rename_i hne
   refine List.pairwise_cons.2 ⟨fun z hz=>?_,xV h2⟩
   have hz':=uN.1 hz
   have a1:=h1 y (by simp)
   rcases qzo.1 hz' with rfl|h3
   ·omega
   ·have:=(List.pairwise_cons.1 h2).1 z h3;omega
def tY (l:List Int):List Int:=l.mergeSort fun x y=>decide (x≤y)
theorem G2 (l:List Int):(tY l).Pairwise fun a b=>a≤b:=by
 have:=List.pairwise_mergeSort (le:=fun x y:Int=>decide (x≤y)) (fun a b c h1 h2=>by simp at *;omega) (fun a b=>by simp;omega) l
 exact this.imp fun h=>by simpa using h
theorem Fl {z:Int} {l:List Int}:z∈tY l↔z∈l:=(List.mergeSort_perm l _).mem_iff
theorem B7 (l:List Int):(tY l).length=l.length:=List.length_mergeSort l
theorem vW {a b:List Int} (ha:Up a) (hb:Up b):uniq (tY (a++b))=dJ a b:=AX (xV (G2 _)) (kf ha hb) fun x=>by rw[uN,Fl,eN,List.mem_append]
/-- the numbers of an occurrence: rising, below 24 -/
def cL (l:List Int):Prop:=Up l∧∀x∈l,0≤x∧x≤23
theorem yM:∀{l:List Int} {p:Int},fj p l=true→Up l∧∀x∈l,p<x∧x≤23
 |[],_,_=>by simp
 |x::l,p,h=>by
  unfold fj at h
  simp only[qzf,decide_eq_true_eq] at h
  obtain⟨a,b⟩:=yM (l:=l) (p:=x) h.2
  refine⟨List.pairwise_cons.2 ⟨fun y hy=>(b y hy).1,a⟩,fun y hy=>?_⟩
  rcases qzo.1 hy with rfl|hy
  ·omega
  ·have:=b y hy;omega
theorem AM {l:List Int} (h:fj (-1) l=true):cL l:=by
 obtain⟨a,b⟩:=yM h
 exact⟨a,fun x hx=>by have:=b x hx;omega⟩
theorem FL:∀{l:List Int} {p:Int},Up l→(∀x∈l,p≤x∧x≤23)→p≤24→(l.length:Int)≤24-p
 |[],p,_,_,h=>by simp;omega
 |x::l,p,h,k,_=>by
  obtain⟨h1,h2⟩:=List.pairwise_cons.1 h
  have hx:=k x (by simp)
  have:=FL (l:=l) (p:=x+1) h2 (fun y hy=>by have:=h1 y hy;have:=k y (by simp[hy]);omega) qom
  simp;omega
theorem co {l:List Int} (h:cL l):l.length≤24:=by have:=FL (p:=0) h.1 h.2 qom;omega
theorem ul {a b:List Int} (ha:cL a) (hb:cL b):cL (dJ a b):=⟨kf ha.1 hb.1,fun x hx=>by
 rcases eN.1 hx with h|h
 ·exact ha.2 x h
 ·exact hb.2 x h⟩
def dv (a b:GOcc):GOcc:=⟨min a.From b.From,max a.To b.To,dJ a.Ids b.Ids⟩
theorem D0 {a b:GOcc} (ha:cL a.Ids) (hb:cL b.Ids):dv a b=dv b a:=by unfold dv;rw[En ha.1 hb.1,Int.min_comm,Int.max_comm]
theorem Dz (k:Nat) (a b:List Int) (ha:a.length≤1000) (hb:b.length≤1000):∀(d i j n:Nat) (acc:List Int),i+j+d=a.length+b.length→i≤a.length→j≤b.length→d<n→acc.length≤i+j→
  cd.l0 k a b n acc (i:Int) (j:Int)=some (acc++dJ (a.drop i) (b.drop j)):=by
 intro d
 induction d using Nat.strongRecOn with
 |_ d ih=>
 intro i j n acc h1 h2 h3 hn hacc
 obtain⟨n,rfl⟩:=qsc n
 by_cases hi:i<a.length
 ·by_cases hj:j<b.length
  ·rw[cd.l0,if_pos qom,if_pos qom,ac qom,qzd,qzc hi]
   simp only[qzb]
   rw[ac qom,qzd,qzc hj]
   simp only[qzb]
   rw[qzj hi,qzj hj]
   unfold dJ
   by_cases c1:a[i]<b[j]
   ·rw[if_pos c1,if_pos c1,ac qom,ac qom,wrS i qom,ih (d-1) qom (i+1) j n _ qom qom h3 qom (by simp;omega),qzl,←qzj hj]
    rfl
   ·rw[if_neg c1,if_neg c1,ac qom,ac qom]
    by_cases c2:a[i]=b[j]
    ·rw[if_pos c2,if_pos c2,ac qom,ac qom,wrS i qom,wrS j qom,ih (d-2) qom (i+1) (j+1) n _ qom qom qom qom (by simp;omega),qzl]
     rfl
    ·rw[if_neg c2,if_neg c2,ac qom,ac qom,wrS j qom,ih (d-1) qom i (j+1) n _ qom h2 qom qom (by simp;omega),qzl,←qzj hi]
     rfl
  ·rw[cd.l0,if_pos qom,if_neg qom,ac qom,qzd,qzc hi]
   simp only[qzb]
   rw[ac qom,wrS i qom,ih (d-1) qom (i+1) j n _ qom qom h3 qom (by simp;omega),qzn (show b.length≤j by omega),qzj hi,qzl]
   have e:∀l:List Int,dJ l []=l:=fun l=>by cases l <;> simp[dJ]
   rw[e,e];rfl
 ·by_cases hj:j<b.length
  ·rw[cd.l0,if_neg qom,if_pos qom,ac qom,qzd,qzc hj]
   simp only[qzb]
   rw[ac qom,wrS j qom,ih (d-1) qom i (j+1) n _ qom h2 qom qom (by simp;omega),qzn (show a.length≤i by omega),qzj hj,qzl]
   simp[dJ]
  ·rw[cd.l0,if_neg qom,if_neg qom,qzn (show a.length≤i by omega),qzn (show b.length≤j by omega)]
   simp[dJ]
theorem ss (k:Nat) (hk:1000000000000≤k) (a b:GOcc) (ha:Few a) (hb:Few b):gl.f k a b=some (dv a b):=by
 unfold gl.f cd.f jb.f nG.f dv
 have:=Dz k a.Ids b.Ids ha hb (a.Ids.length+b.Ids.length) 0 0 k [] qom qom qom qom (by simp)
 rw[show((0:Nat):Int)=0 from rfl] at this
 rw[this]
 have e1:(if a.From<b.From then some a.From else some b.From)=some (min a.From b.From):=by split <;> (congr 1;omega)
 have e2:(if b.To<a.To then some a.To else some b.To)=some (max a.To b.To):=by split <;> (congr 1;omega)
 rw[e1,e2]
 rfl
theorem EX (k:Nat) (hk:1000000000000≤k) (a b:List Int) (ha:a.length≤1000) (hb:b.length≤1000):bh.f k [a,b]=some (a++b):=by
 obtain⟨k',rfl⟩:∃m,k=m+3:=⟨k-3,by omega⟩
 unfold bh.f kP.f
 have e0:bh.l0 (k'+3) [a,b] (k'+3) 0 0=some ((a.length:Int)+b.length):=by
  rw[bh.l0,if_pos (by simp),ac qom]
  simp only[Int.toNat_zero,qzs,qzb]
  rw[wr (0+(a.length:Int)) qom,if_neg qom,show IntKind.wrap .i64 (0+1)=1 from rfl,bh.l0,if_pos (by simp),ac qom]
  simp only[Int.toNat_one,yz,qzs,qzb]
  rw[wr _ qom,if_neg qom,show IntKind.wrap .i64 (1+1)=2 from rfl,bh.l0,if_neg (by simp)]
  congr 1;omega
 have e1:bh.l1 (k'+3) [a,b] (k'+3) [] 0=some (a++b):=by
  rw[bh.l1,if_pos (by simp),ac qom]
  simp only[Int.toNat_zero,qzs,qzb]
  rw[ac (by simp;omega),show IntKind.wrap .i64 (0+1)=1 from rfl,bh.l1,if_pos (by simp),ac qom]
  simp only[Int.toNat_one,yz,qzs,qzb]
  rw[ac (by simp;omega),show IntKind.wrap .i64 (1+1)=2 from rfl,bh.l1,if_neg (by simp)]
  rfl
 rw[e0]
 simp only[qzb]
 rw[ac trivial,ac qom,ac qom]
 simp only[qzb]
 rw[e1];rfl
theorem lT (k:Nat) (hk:1000000000000≤k) (a b:GOcc) (ha:cL a.Ids) (hb:cL b.Ids):gz.f k a b=some (dv a b):=by
 have l1:=co ha
 have l2:=co hb
 unfold gz.f kR.f eX.f
 rw[EX k hk _ _ qom qom]
 simp only[qzb]
 have e:(a.Ids++b.Ids).mergeSort (fun x y=>decide (x≤y))=tY (a.Ids++b.Ids):=rfl
 rw[ac (by simp;omega),e]
 simp only[qzb]
 have l3:=B7 (a.Ids++b.Ids)
 rw[ac l3,ac (by rw[l3];simp;omega)]
 have l4:(uniq (tY (a.Ids++b.Ids))).length≤24:=by rw[vW ha.1 hb.1];exact co (ul ha hb)
 simp only[qzb]
 rw[ac qom,ac qom,ac qom,ac qom,vW ha.1 hb.1]
 unfold dv
 by_cases c1:b.From<a.From
 ·rw[if_pos c1]
  by_cases c2:a.To<b.To
  ·rw[if_pos c2];congr 2 <;> omega
  ·rw[if_neg c2];congr 2 <;> omega
 ·rw[if_neg c1]
  by_cases c2:a.To<b.To
  ·rw[if_pos c2];congr 2 <;> omega
  ·rw[if_neg c2];congr 2 <;> omega
/-- a loop over a list, its state told in another way -/
theorem F4 {α σ τ:Type} (ret:σ→τ) (l:List α) (body:σ→α→Option σ) (L:Nat→σ→Int→Option τ) (g:σ→α→σ) (Inv:Nat→σ→Prop)
  (hend:∀n s,L (n+1) s (l.length:Int)=some (ret s))
  (hstep:∀n s (i:Nat) (h:i<l.length),L (n+1) s (i:Int)=(body s l[i]).bind fun s'=>L n s' ((i+1:Nat):Int))
  (hbody:∀i s (h:i<l.length),Inv i s→body s l[i]=some (g s l[i])∧Inv (i+1) (g s l[i])) :
  ∀(d i n:Nat) (s:σ),i+d=l.length→d<n→Inv i s→L n s (i:Int)=some (ret ((l.drop i).foldl g s))∧Inv l.length ((l.drop i).foldl g s):=by
 intro d
 induction d with
 |zero=>
  intro i n s hi hn hI
  obtain⟨n,rfl⟩:=qsc n
  have e:i=l.length:=by omega
  subst e
  rw[hend,List.drop_length]
  exact⟨rfl,hI⟩
 |succ d ih=>
  intro i n s hi hn hI
  obtain⟨n,rfl⟩:=qsc n
  have hlt:i<l.length:=by omega
  obtain⟨h1,h2⟩:=hbody i s hlt hI
  rw[hstep n s i hlt,h1,qzj hlt]
  exact ih (i+1) n _ qom qom h2
theorem fd {α σ τ:Type} (ret:σ→τ) (l:List α) (body:σ→α→Option σ) (L:Nat→σ→Int→Option τ) (g:σ→α→σ) (Inv:Nat→σ→Prop)
  (hend:∀n s,L (n+1) s (l.length:Int)=some (ret s))
  (hstep:∀n s (i:Nat) (h:i<l.length),L (n+1) s (i:Int)=(body s l[i]).bind fun s'=>L n s' ((i+1:Nat):Int))
  (hbody:∀i s (h:i<l.length),Inv i s→body s l[i]=some (g s l[i])∧Inv (i+1) (g s l[i])) (n:Nat) (s:σ) (hn:l.length<n) (hI:Inv 0 s) :
  L n s 0=some (ret (l.foldl g s))∧Inv l.length (l.foldl g s):=by
 have:=F4 ret l body L g Inv hend hstep hbody l.length 0 n s qom hn hI
 simpa using this
/-- those of a list that hold, kept in order -/
theorem fK {α:Type} (p:α→Bool):∀(l acc:List α),l.foldl (fun s e=>if p e=true then s++[e] else s) acc=acc++l.filter p
 |[],acc=>by simp
 |x::l,acc=>by
  rw[ox,fK p l]
  by_cases h:p x=true
  ·rw[if_pos h,List.filter_cons_of_pos h];simp
  ·rw[if_neg h,List.filter_cons_of_neg h]
/-- all numbers of a list of occurrences are right -/
def Ids (l:List GOcc):Prop:=∀o∈l,cL o.Ids
theorem Ids.few {l:List GOcc} (h:Ids l):fZ l:=fun o ho=>by have:=co (h o ho);omega
theorem tS {l:List GOcc} {o:GOcc} (h:Ids l) (ho:cL o.Ids):Ids (cJ l o):=fun x hx=>by
 rcases gI.1 hx with h1|rfl
 ·exact h x h1
 ·exact ho
theorem jP {l m:List GOcc} (h:Ids l) (hm:Ids m):Ids (cM l m):=fun x hx=>by
 rcases lQ.1 hx with h1|h1
 ·exact h x h1
 ·exact hm x h1
theorem j3 {a b:GOcc} (ha:cL a.Ids) (hb:cL b.Ids):cL (dv a b).Ids:=ul ha hb
theorem zd {l:List GOcc} (h:dA l=true):Ids l:=fun o ho=>by
 obtain⟨i,hi,rfl⟩:=List.mem_iff_getElem.1 ho
 have:=(yX h hi).1
 unfold dx at this
 simp only[qzf,decide_eq_true_eq] at this
 exact AM this.2
/-- what is found of one and of those that wait -/
def pF (o:GOcc) (l:List GOcc):GOcc:=l.foldl dv o
def wM (o:GOcc) (l:List GOcc):List GOcc:=l.foldl (fun s e=>cJ s (dv o e)) []
def eZ (mode:Int) (o:GOcc) (l:List GOcc):List GOcc:=
 if l.length=0 then[] else if mode=1 then[dv o (l[l.length-1]?.getD o)] else if mode=2 then[dv o (l[0]?.getD o)] else if mode=4 then[pF o l] else wM o l
def oV (mode:Int) (l:List GOcc):List GOcc:=if mode=1 then[] else if mode=2 then l.take 1 else if mode=4 then l else if mode=3 then l else[]
theorem Dj:∀{l:List GOcc} {o:GOcc},Ids l→cL o.Ids→cL (pF o l).Ids
 |[],_,_,h=>h
 |x::l,o,hl,h=>Dj (l:=l) (o:=dv o x) (fun y hy=>hl y (by simp[hy])) (j3 h (hl x (by simp)))
theorem wn (o:GOcc) (ho:cL o.Ids):∀(l acc:List GOcc),Ids l→Ids acc→Asc acc→Ids (l.foldl (fun s e=>cJ s (dv o e)) acc)∧Asc (l.foldl (fun s e=>cJ s (dv o e)) acc)∧(l.foldl (fun s e=>cJ s (dv o e)) acc).length≤acc.length+l.length
 |[],acc,_,h,h2=>⟨h,h2,by simp⟩
 |x::l,acc,hl,h,h2=>by
  obtain⟨a,b,c⟩:=wn o ho l (cJ acc (dv o x)) (fun y hy=>hl y (by simp[hy])) (tS h (j3 ho (hl x (by simp)))) (mw h2)
  have:=gu (dv o x) acc
  exact⟨a,b,by simp only[ox,qzm];omega⟩
theorem CO (k:Nat) (hk:1000000000000≤k) (o:GOcc) (l:List GOcc) (hl:l.length≤40000000000) (hi:Ids l) (ho:cL o.Ids) :
  aJ.l0 k l k o.From o.To o.Ids 0=some ((pF o l).From,(pF o l).To,(pF o l).Ids):=by
 have:=fd (fun s:GOcc=>(s.From,s.To,s.Ids)) l (fun s e=>gz.f k s e) (fun n s i=>aJ.l0 k l n s.From s.To s.Ids i) dv (fun i s=>cL s.Ids)
  (fun n s=>by rw[aJ.l0,if_neg qom])
  (fun n s i h=>by
   rw[aJ.l0,if_pos qom,ac qom,qzd,qzc h]
   simp only[qzb]
   rw[wrS i qom])
  (fun i s h hI=>⟨lT k hk s _ hI (hi _ (qze h)),j3 hI (hi _ (qze h))⟩) k o qom ho
 exact this.1
theorem Bu (k:Nat) (hk:1000000000000≤k) (o:GOcc) (l:List GOcc) (hl:l.length≤40000000000) (hi:Ids l) (ho:cL o.Ids):aJ.l1 k o l k [] 0=some (wM o l):=by
 have:=cD l (fun s e=>(gz.f k o e).bind fun x=>fk.f k s x) (aJ.l1 k o l) (fun s e=>cJ s (dv o e)) (fun i s=>s.length≤i∧Ids s∧Asc s)
  (fun n s=>by rw[aJ.l1,if_neg qom])
  (fun n s i h=>by
   rw[aJ.l1,if_pos qom,ac qom,qzd,qzc h]
   simp only[qzb]
   rw[wrS i qom,qzQ])
  (fun i s h hI=>by
   have hx:=hi _ (qze h)
   refine⟨by rw[lT k hk o _ ho hx];exact kO k hk s _ qom hI.2.1.few hI.2.2,?_,tS hI.2.1 (j3 ho hx),mw hI.2.2⟩
   have:=gu (dv o l[i]) s;omega)
  k [] qom ⟨by simp,fun x hx=>by simp at hx,by simp[Asc]⟩
 exact this.1
theorem nJ (k:Nat) (hk:1000000000000≤k) (mode:Int) (o:GOcc) (l:List GOcc) (hl:l.length≤40000000000) (hi:Ids l) (ho:cL o.Ids) :
  aJ.f k mode o l=some (eZ mode o l,if l.length=0 then[] else oV mode l):=by
 unfold aJ.f eZ oV
 by_cases h0:l.length=0
 ·rw[if_pos qom,if_pos h0,if_pos h0]
 rw[if_neg qom,if_neg h0,if_neg h0]
 by_cases h1:mode=1
 ·obtain⟨j,hj⟩:∃j,l.length=j+1:=⟨l.length-1,by omega⟩
  have hlt:j<l.length:=by omega
  have e:IntKind.wrap .i64 ((l.length:Int)-1)=(j:Int):=by rw[hj];exact wrP j qom
  rw[if_pos h1,if_pos h1,if_pos h1,e,ac qom,qzd,qzc hlt]
  simp only[qzb]
  rw[lT k hk o _ ho (hi _ (qze hlt)),show l.length-1=j by omega,qzc hlt]
  rfl
 rw[if_neg h1,if_neg h1,if_neg h1]
 by_cases h2:mode=2
 ·have hlt:0<l.length:=by omega
  rw[if_pos h2,if_pos h2,if_pos h2,ac qom,qzc hlt]
  simp only[qzb]
  rw[lT k hk o _ ho (hi _ (qze hlt))]
  simp only[qzb]
  rw[ac qom,ac qom,ac qom]
  rfl
 rw[if_neg h2,if_neg h2,if_neg h2]
 by_cases h4:mode=4
 ·rw[if_pos h4,if_pos h4,if_pos h4,CO k hk o l hl hi ho]
  rfl
 rw[if_neg h4,if_neg h4,if_neg h4,Bu k hk o l hl hi ho]
 simp only[qzb]
 by_cases h3:mode=3
 ·rw[if_pos h3,if_pos h3]
 ·rw[if_neg h3,if_neg h3]
/-- a list without some -/
def ow (l gone:List GOcc):List GOcc:=l.filter fun x=> !(gone.any fun g=>decide (bx g x=0))
theorem yV {l:List GOcc} {o:GOcc} (hs:Asc l):(∃x,l[bY l o]? =some x∧bx x o=0)↔(l.any fun g=>decide (bx g o=0))=true:=by
 rw[List.any_eq_true]
 constructor
 ·rintro⟨x,h1,h2⟩
  exact⟨x,qzI h1,by simpa using h2⟩
 ·rintro⟨x,h1,h2⟩
  have h2:bx x o=0:=by simpa using h2
  have e:=kE h2
  subst e
  obtain⟨i,hi,rfl⟩:=List.mem_iff_getElem.1 h1
  refine⟨l[i],?_,ky _⟩
  have hr:=qz l l[i]
  rcases Nat.lt_trichotomy i (bY l l[i]) with h|h|h
  ·obtain⟨y,e1,e2⟩:=pr h
   rw[qzc hi,qzh] at e1
   subst e1
   rw[yF] at e2;cases e2
  ·rw[←h];exact qzc hi
  ·have h3:=vl (l:=l) (o:=l[i]) qom
   have h4:bK l[bY l l[i]] l[i]=true:=List.pairwise_iff_getElem.1 hs _ _ _ _ h
   rw[h4] at h3;cases h3
theorem rh (k:Nat) (hk:1000000000000≤k) (l gone:List GOcc) (hl:l.length≤40000000000) (hg:gone.length≤40000000000) (hf:fZ gone) (hs:Asc gone):bz.f k l gone=some (ow l gone):=by
 unfold bz.f
 have:=cD l (fun s e=>(aI.f (fun y0 y1=>ek.f k y0 y1) k gone e).bind fun x=>if x.2=true then some s else(req ((s.length+1) * 40≤140737488355328) (some (s++[e])))) (bz.l0 k l gone)
  (fun s e=>if(!(gone.any fun g=>decide (bx g e=0)))=true then s++[e] else s) (fun i s=>s.length≤i)
  (fun n s=>by rw[bz.l0,if_neg qom])
  (fun n s i h=>by
   rw[bz.l0,if_pos qom,ac qom,qzd,qzc h]
   simp only[qzb]
   rw[wrS i qom,Du k hk gone _ qom hf hs]
   simp only[qzb]
   split
   ·rfl
   ·unfold req;split <;> rfl)
  (fun i s h hI=>by
   rw[Du k hk gone _ qom hf hs]
   simp only[qzb]
   by_cases c:∃x,gone[bY gone l[i]]? =some x∧bx x l[i]=0
   ·have c2:=(yV hs).1 c
    rw[if_pos (by simpa using c),c2]
    exact⟨rfl,by simp;omega⟩
   ·have c2:(gone.any fun g=>decide (bx g l[i]=0))=false:=by
     cases h':(gone.any fun g=>decide (bx g l[i]=0))
     ·rfl
     ·exact absurd ((yV hs).2 h') c
    rw[if_neg (by simpa using c),c2,ac qom]
    exact⟨rfl,by simp;omega⟩)
  k [] qom (by simp)
 rw[this.1,fK];rfl
theorem oa (k:Nat) (hk:1000000000000≤k) (g1:GOcc→Option Bool) (p:GOcc→Bool) (l:List GOcc) (hl:l.length≤40000000000) (hp:∀x∈l,g1 x=some (p x)):aX.f g1 k l=some (l.filter p):=by
 unfold aX.f
 have:=cD l (fun s e=>(g1 e).bind fun x=>if x=true then(req ((s.length+1) * 40≤140737488355328) (some (s++[e]))) else some s) (aX.l0 k g1 l)
  (fun s e=>if p e=true then s++[e] else s) (fun i s=>s.length≤i)
  (fun n s=>by rw[aX.l0,if_neg qom])
  (fun n s i h=>by
   rw[aX.l0,if_pos qom,ac qom,qzd,qzc h]
   simp only[qzb]
   rw[wrS i qom,hp _ (qze h)]
   simp only[qzb]
   split
   ·unfold req;split <;> rfl
   ·rfl)
  (fun i s h hI=>by
   rw[hp _ (qze h)]
   simp only[qzb]
   by_cases c:p l[i]=true
   ·rw[if_pos c,if_pos c,ac qom]
    exact⟨rfl,by simp;omega⟩
   ·rw[if_neg c,if_neg c]
    exact⟨rfl,by omega⟩)
  k [] qom (by simp)
 rw[this.1,fK];rfl
theorem HZ (k:Nat) (hk:1000000000000≤k) (l:List GOcc) (p:GOcc→Bool) (hl:l.length≤40000000000):aF.l0 k l (l.map p) k [] 0=some (l.filter p):=by
 have:=cD l (fun s e=>if p e=true then(req ((s.length+1) * 40≤140737488355328) (some (s++[e]))) else some s) (aF.l0 k l (l.map p)) (fun s e=>if p e=true then s++[e] else s) (fun i s=>s.length≤i)
  (fun n s=>by rw[aF.l0,if_neg qom])
  (fun n s i h=>by
   rw[aF.l0,if_pos qom,ac qom,qzd,qzC,qzc h]
   simp only[qzL,qzb]
   rw[wrS i qom]
   split
   ·rw[ac qom,ac qom];unfold req;split <;> rfl
   ·rfl)
  (fun i s h hI=>by
   by_cases c:p l[i]=true
   ·rw[if_pos c,if_pos c,ac qom];exact⟨rfl,by simp;omega⟩
   ·rw[if_neg c,if_neg c];exact⟨rfl,by omega⟩)
  k [] qom (by simp)
 rw[this.1,fK];rfl
theorem Ht (k:Nat) (hk:1000000000000≤k) (l:List GOcc) (p:GOcc→Bool) (hl:l.length≤40000000000):aF.l2 k l (l.map p) k [] 0=some (l.filter fun e=> !p e):=by
 have:=cD l (fun s e=>if p e=true then some s else(req ((s.length+1) * 40≤140737488355328) (some (s++[e])))) (aF.l2 k l (l.map p)) (fun s e=>if(!p e)=true then s++[e] else s) (fun i s=>s.length≤i)
  (fun n s=>by rw[aF.l2,if_neg qom])
  (fun n s i h=>by
   rw[aF.l2,if_pos qom,ac qom,qzd,qzC,qzc h]
   simp only[qzL,qzb]
   rw[wrS i qom]
   split
   ·rfl
   ·rw[ac qom,ac qom];unfold req;split <;> rfl)
  (fun i s h hI=>by
   by_cases c:p l[i]=true
   ·rw[if_pos c,if_neg (by simp[c])];exact⟨rfl,by omega⟩
   ·rw[if_neg c,if_pos (by simp[c]),ac qom];exact⟨rfl,by simp;omega⟩)
  k [] qom (by simp)
 rw[this.1,fK];rfl
theorem HX (k:Nat) (hk:1000000000000≤k) (l:List GOcc) (p:GOcc→Bool) (hl:l.length≤40000000000) (hf:fZ l) (x:GOcc) (t:List GOcc):aF.l1 k l (l.map p) (x::t) k [] 0=some (l.filter fun e=> !(p e&&decide (bx e x=0))):=by
 have:=cD l (fun s e=>if p e=true then(if bx e x=0 then some s else(req ((s.length+1) * 40≤140737488355328) (some (s++[e])))) else(req ((s.length+1) * 40≤140737488355328) (some (s++[e])))) (aF.l1 k l (l.map p) (x::t)) (fun s e=>if(!(p e&&decide (bx e x=0)))=true then s++[e] else s) (fun i s=>s.length≤i)
  (fun n s=>by rw[aF.l1,if_neg qom])
  (fun n s i h=>by
   rw[aF.l1,if_pos qom,ac qom,qzd,qzC,qzc h]
   simp only[qzL,qzb]
   rw[wrS i qom]
   split
   ·rw[ac qom,ac qom,ac qom,ac qom]
    simp only[qzs,qzb,B0 _ x (hf _ (qze h)) k hk]
    by_cases c:bx l[i] x=0
    ·rw[if_pos (by simpa using c),if_pos c];rfl
    ·rw[if_neg (by simpa using c),if_neg c,ac qom,ac qom];unfold req;split <;> rfl
   ·rw[ac qom,ac qom];unfold req;split <;> rfl)
  (fun i s h hI=>by
   by_cases c:p l[i]=true
   ·by_cases c2:bx l[i] x=0
    ·rw[if_pos c,if_pos c2,if_neg (by simp[c,c2])];exact⟨rfl,by omega⟩
    ·rw[if_pos c,if_neg c2,if_pos (by simp[c2]),ac qom];exact⟨rfl,by simp;omega⟩
   ·rw[if_neg c,if_pos (by simp[c]),ac qom];exact⟨rfl,by simp;omega⟩)
  k [] qom (by simp)
 rw[this.1,fK];rfl
def nO (mode:Int) (l:List GOcc) (p:GOcc→Bool):List GOcc:=if mode=1 then(l.filter p).drop ((l.filter p).length-1) else if mode=2 then(l.filter p).take 1 else l.filter p
theorem xj (l:List GOcc):ow l []=l:=by unfold ow;simp
theorem yq (k:Nat) (hk:1000000000000≤k) (mode:Int) (hm:0≤mode∧mode≤4) (l:List GOcc) (p:GOcc→Bool) (hl:l.length≤40000000000) (hf:fZ l) :
  aF.f k mode l (l.map p)=some (nO mode l p,ow l (if(l.filter p).length=0 then[] else oV mode (l.filter p))):=by
 unfold aF.f nO oV
 rw[HZ k hk l p hl]
 simp only[qzb]
 have hlen:(l.filter p).length≤l.length:=vI _ _
 generalize hs:l.filter p=s at hlen⊢
 by_cases h0:s.length=0
 ·rw[if_pos qom,if_pos h0,xj]
  have e:s=[]:=List.length_eq_zero_iff.1 h0
  subst e
  simp
 rw[if_neg qom,if_neg h0]
 by_cases m0:mode=0
 ·subst m0
  simp[xj]
 rw[if_neg m0]
 by_cases m1:mode=1
 ·obtain⟨j,hj⟩:∃j,s.length=j+1:=⟨s.length-1,by omega⟩
  have e:IntKind.wrap .i64 (((s.length:Nat):Int)-1)=(j:Int):=by rw[hj];exact wrP j qom
  rw[if_pos m1,if_pos m1,if_pos m1,e,ac qom,ac qom,ac qom,xj,qzd,show s.length-1=j by omega,qzD (by rw[qzU];omega)]
 rw[if_neg m1,if_neg m1,if_neg m1]
 by_cases m2:mode=2
 ·rw[if_pos m2,if_pos m2,if_pos m2,ac qom,ac qom,ac qom]
  cases s with
  |nil=>simp at h0
  |cons x t=>
   rw[HX k hk l p hl hf x t]
   simp only[qzb,qzh,oM,true_and]
   unfold ow
   apply List.filter_congr
   intro e he
   have hx:p x=true:=by
    have:x∈l.filter p:=by rw[hs];simp
    exact(List.mem_filter.1 this).2
   have sym:bx x e=0↔bx e x=0:=by have:=uB x e;omega
   by_cases c:bx e x=0
   ·have:=kE c
    subst this
    simp[hx,ky]
   ·simp[c,sym]
 rw[if_neg m2,if_neg m2,if_neg m2,Ht k hk l p hl]
 have gone:(if mode=4 then s else if mode=3 then s else[])=s:=by
  by_cases m4:mode=4
  ·rw[if_pos m4]
  ·rw[if_neg m4,if_pos qom]
 rw[gone]
 simp only[qzb,qzh,oM,true_and]
 unfold ow
 apply List.filter_congr
 intro e he
 congr 1
 rw[qzP,List.any_eq_true]
 constructor
 ·intro h
  exact⟨e,by rw[←hs];exact List.mem_filter.2 ⟨he,h⟩,by simp[ky]⟩
 ·rintro⟨g,h1,h2⟩
  have:=kE (show bx g e=0 by simpa using h2)
  subst this
  rw[←hs] at h1
  exact(List.mem_filter.1 h1).2
theorem GA (k:Nat) (hk:1000000000000≤k) (o:GOcc) (l:List GOcc) (hl:l.length≤40000000000) (hi:Ids l) (ho:cL o.Ids) :
  bf.l0 k l k o.From o.To o.Ids 0=some ((pF o l).From,(pF o l).To,(pF o l).Ids):=by
 have:=fd (fun s:GOcc=>(s.From,s.To,s.Ids)) l (fun s e=>gl.f k s e) (fun n s i=>bf.l0 k l n s.From s.To s.Ids i) dv (fun i s=>cL s.Ids)
  (fun n s=>by rw[bf.l0,if_neg qom])
  (fun n s i h=>by
   rw[bf.l0,if_pos qom,ac qom,qzd,qzc h]
   simp only[qzb]
   rw[wrS i qom])
  (fun i s h hI=>⟨ss k hk s _ (by have:=co hI;omega) (hi.few _ (qze h)),j3 hI (hi _ (qze h))⟩) k o qom ho
 exact this.1
theorem tu (k:Nat) (hk:1000000000000≤k) (o:GOcc) (l:List GOcc) (hl:l.length≤40000000000) (hi:Ids l) (ho:cL o.Ids):bf.l1 k l o k [] 0=some (wM o l):=by
 have:=cD l (fun s e=>(gl.f k e o).bind fun x=>cl.f k s x) (bf.l1 k l o) (fun s e=>cJ s (dv o e)) (fun i s=>s.length≤i∧Ids s)
  (fun n s=>by rw[bf.l1,if_neg qom])
  (fun n s i h=>by
   rw[bf.l1,if_pos qom,ac qom,qzd,qzc h]
   simp only[qzb]
   rw[wrS i qom,qzQ])
  (fun i s h hI=>by
   have hx:=hi _ (qze h)
   have hj:=j3 ho hx
   refine⟨by rw[ss k hk _ o (hi.few _ (qze h)) (by have:=co ho;omega),D0 hx ho];exact mE k hk s _ qom hI.2.few (by have:=co hj;omega),?_,tS hI.2 hj⟩
   have:=gu (dv o l[i]) s;omega)
  k [] qom ⟨by simp,fun x hx=>by simp at hx⟩
 exact this.1
theorem tG (k:Nat) (hk:1000000000000≤k) (mode:Int) (o:GOcc) (l:List GOcc) (p:GOcc→Bool) (hl:l.length≤40000000000) (hi:Ids l) (ho:cL o.Ids) :
  bf.f k mode (nO mode l p) o=some (eZ mode o (l.filter p)):=by
 have hlen:(l.filter p).length≤l.length:=vI _ _
 have hs:Ids (l.filter p):=fun x hx=>hi x (List.mem_filter.1 hx).1
 unfold bf.f nO eZ
 generalize l.filter p=s at hlen hs⊢
 by_cases h0:s.length=0
 ·have e:s=[]:=List.length_eq_zero_iff.1 h0
  subst e
  simp
 rw[if_neg h0]
 by_cases m1:mode=1
 ·have hlt:s.length-1<s.length:=by omega
  have e:s.drop (s.length-1)=[s[s.length-1]]:=by rw[qzj hlt,qzn qom]
  rw[if_pos m1,if_pos m1,if_neg (by rw[e];simp),if_neg qom,e,tu k hk o _ (by simp) (fun x hx=>by rw[List.mem_singleton.1 hx];exact hs _ (qze hlt)) ho,qzc hlt]
  rfl
 rw[if_neg m1,if_neg m1]
 by_cases m2:mode=2
 ·cases s with
  |nil=>simp at h0
  |cons x t=>
   rw[if_pos m2,if_pos m2,if_neg (by simp),if_neg qom,show(x::t).take 1=[x] from rfl,tu k hk o _ (by simp) (fun y hy=>by rw[List.mem_singleton.1 hy];exact hs _ (by simp)) ho]
   rfl
 rw[if_neg m2,if_neg m2,if_neg qom]
 by_cases m4:mode=4
 ·rw[if_pos m4,if_pos m4,GA k hk o s qom hs ho]
  simp only[qzb]
  rw[ac (by simp)]
  rfl
 ·rw[if_neg m4,if_neg m4,tu k hk o s qom hs ho]
  rfl
/-- an ordered list of occurrences with right numbers, no longer than m -/
def Ok (m:Nat) (l:List GOcc):Prop:=Asc l∧Ids l∧l.length≤m
theorem Ok.nil (m:Nat):Ok m []:=⟨by simp[Asc],fun x hx=>by simp at hx,by simp⟩
theorem Ok.mono {m n:Nat} {l:List GOcc} (h:Ok m l) (hm:m≤n):Ok n l:=⟨h.1,h.2.1,qzz h.2.2 hm⟩
theorem Ok.filter {m:Nat} {l:List GOcc} (p:GOcc→Bool) (h:Ok m l):Ok m (l.filter p):=⟨List.Pairwise.sublist List.filter_sublist h.1,fun x hx=>h.2.1 x (List.mem_filter.1 hx).1,qzz (vI _ _) h.2.2⟩
theorem Ok.rem {m:Nat} {l gone:List GOcc} (h:Ok m l):Ok m (ow l gone):=h.filter _
theorem Ok.merge {m n:Nat} {l r:List GOcc} (h:Ok m l) (hr:Ok n r):Ok (m+n) (cM l r):=⟨gU h.1,jP h.2.1 hr.2.1,by have:=db r l;have:=h.2.2;have:=hr.2.2;omega⟩
theorem Ok.put {m:Nat} {l:List GOcc} {o:GOcc} (h:Ok m l) (ho:cL o.Ids):Ok (m+1) (cJ l o):=⟨mw h.1,tS h.2.1 ho,by have:=gu o l;have:=h.2.2;omega⟩
theorem Ok.found {m:Nat} {mode:Int} {o:GOcc} {l:List GOcc} (h:Ok m l) (ho:cL o.Ids):Ok m (eZ mode o l):=by
 have one:∀x:GOcc,cL x.Ids→l.length≠0→Ok m [x]:=fun x hx hl=>⟨by simp[Asc],fun y hy=>by rw[List.mem_singleton.1 hy];exact hx,by have:=h.2.2;simp;omega⟩
 unfold eZ
 by_cases h0:l.length=0
 ·rw[if_pos h0];exact Ok.nil m
 rw[if_neg h0]
 split
 ·exact one _ (j3 ho (by rw[qzc (show l.length-1<l.length by omega)];exact h.2.1 _ (qze _))) h0
 split
 ·exact one _ (j3 ho (by rw[qzc (show 0<l.length by omega)];exact h.2.1 _ (qze _))) h0
 split
 ·exact one _ (Dj h.2.1 ho) h0
 ·obtain⟨a,b,c⟩:=wn o ho l [] h.2.1 (Ok.nil 0).2.1 (Ok.nil 0).1
  exact⟨b,a,by simp at c;have:=h.2.2;exact qzz c this⟩
theorem Ok.gone {m:Nat} {mode:Int} {l:List GOcc} (h:Ok m l):Ok m (if l.length=0 then[] else oV mode l):=by
 split
 ·exact Ok.nil m
 unfold oV
 split
 ·exact Ok.nil m
 split
 ·exact⟨List.Pairwise.sublist (List.take_sublist _ _) h.1,fun x hx=>h.2.1 x (tn hx),by have:=h.2.2;simp;omega⟩
 split
 ·exact h
 split
 ·exact h
 ·exact Ok.nil m
/-- one on the right of a sequence or an absence: what is left waiting, and what was found -/
def fy (mode:Int) (p:GOcc→GOcc→Bool) (s:List GOcc×List GOcc) (o:GOcc):List GOcc×List GOcc:=
 (ow s.1 (if(s.1.filter (p o)).length=0 then[] else oV mode (s.1.filter (p o))),cM s.2 (eZ mode o (s.1.filter (p o))))
theorem tO {mode:Int} {p:GOcc→GOcc→Bool} {s:List GOcc×List GOcc} {o:GOcc} {m n:Nat} (h1:Ok m s.1) (h2:Ok n s.2) (ho:cL o.Ids):Ok m (fy mode p s o).1∧Ok (n+m) (fy mode p s o).2:=
 ⟨h1.rem,h2.merge ((h1.filter _).found ho)⟩
def before (o s:GOcc):Bool:=decide (s.To<o.From)
theorem AF (k:Nat) (hk:1000000000000≤k) (mode:Int) (right:List GOcc) (left:List GOcc) (m c:Nat) (hm:m≤40000000000) (hc:right.length≤c) (hc2:c≤40000000000) (hcm:c * m≤40000000000) (hl:Ok m left) (hr:Ids right) :
  cC.l0 k mode right k left [] 0=some (right.foldl (fy mode before) (left,[]))∧Ok m (right.foldl (fy mode before) (left,[])).1∧Ok (c * m) (right.foldl (fy mode before) (left,[])).2:=by
 have:=fd (fun s:List GOcc×List GOcc=>s) right (fun s e=>(aX.f (fun y0=>fU.f y0 e) k s.1).bind fun x46=>((aJ.f k mode e x46).bind fun x49=>((bc.f k s.2 x49.1).bind fun x52=>((bz.f k s.1 x49.2).bind fun x55=>some (x55,x52))))) (fun n s i=>cC.l0 k mode right n s.1 s.2 i) (fy mode before) (fun i s=>Ok m s.1∧Ok (i * m) s.2)
  (fun n s=>by rw[cC.l0,if_neg qom])
  (fun n s i h=>by
   rw[cC.l0,if_pos qom,ac qom,qzd,qzc h]
   simp only[qzb,qzQ]
   rw[wrS i qom])
  (fun i s h hI=>by
   obtain⟨h1,h2⟩:=hI
   have ho:=hr _ (qze h)
   have hb:i * m≤40000000000:=qzz (qzp _ qom) hcm
   have hf:=h1.filter (before right[i])
   have hfo:=hf.found (mode:=mode) ho
   have hg:=hf.gone (mode:=mode)
   have e1:aX.f (fun y0=>fU.f y0 right[i]) k s.1=some (s.1.filter (before right[i])):=oa k hk _ _ _ (by have:=h1.2.2;omega) (fun x hx=>rfl)
   have:=h1.2.2;have:=h2.2.2;have:=hf.2.2;have:=hfo.2.2;have:=hg.2.2
   refine⟨?_,?_⟩
   ·rw[e1]
    simp only[qzb]
    rw[nJ k hk mode _ _ qom hf.2.1 ho]
    simp only[qzb]
    rw[dk k hk _ _ qom h2.2.1.few hfo.2.1.few h2.1]
    simp only[qzb]
    rw[rh k hk _ _ qom qom hg.2.1.few hg.1]
    rfl
   ·have:=tO (mode:=mode) (p:=before) h1 h2 ho
    refine⟨this.1,?_⟩
    rw[pN]
    exact this.2)
  k (left,[]) qom ⟨hl,by simpa using Ok.nil 0⟩
 exact⟨this.1,this.2.1,this.2.2.mono (qzp _ hc)⟩
theorem vp {α:Type} (l:List α) (p:α→Bool) (L:Nat→List Bool→Int→Option (List Bool)) (hend:∀n s,L (n+1) s (l.length:Int)=some s)
  (hstep:∀n s (i:Nat) (h:i<l.length),s.length=l.length→L (n+1) s (i:Int)=L n (s.set i (p l[i])) ((i+1:Nat):Int)) :
  ∀(d i n:Nat) (s:List Bool),i+d=l.length→d<n→s.length=l.length→s.take i=(l.map p).take i→L n s (i:Int)=some (l.map p):=by
 intro d
 induction d with
 |zero=>
  intro i n s hi hn hs ht
  obtain⟨n,rfl⟩:=qsc n
  have e:i=l.length:=by omega
  subst e
  rw[hend,qzh]
  rwa [qzD qom,qzD (by simp)] at ht
 |succ d ih=>
  intro i n s hi hn hs ht
  obtain⟨n,rfl⟩:=qsc n
  have hlt:i<l.length:=by omega
  rw[hstep n s i hlt hs]
  refine ih (i+1) n _ qom qom (by simpa using hs) ?_
  rw[xJ,List.take_set_of_le (qzi _),ht,xJ]
  simp[hlt,hs]
theorem EY (k:Nat) (hk:1000000000000≤k) (l:List GOcc) (o:GOcc) (hl:l.length≤40000000000):cA.f k l o=some (l.map (before o)):=by
 unfold cA.f
 rw[ac qom,ac qom,ac qom]
 have:=vp l (before o) (cA.l0 k l o) (fun n s=>by rw[cA.l0,if_neg qom])
  (fun n s i h hs=>by
   rw[cA.l0,if_pos qom,ac qom,qzd,qzc h]
   simp only[qzb]
   rw[ac qom,ac qom,qzc (show i<s.length by omega)]
   simp only[qzb]
   rw[wrS i qom]
   rfl)
  l.length 0 k (List.replicate l.length false) qom qom (by simp) (by simp)
 rw[show((0:Nat):Int)=0 from rfl] at this
 rw[this];rfl
theorem Gc (k:Nat) (hk:1000000000000≤k) (l:List GOcc) (hl:l.length≤40000000000):cU.f k l=some (l.map fun _=>true):=by
 unfold cU.f
 rw[ac qom,ac qom,ac qom]
 have:=vp l (fun _=>true) (cU.l0 k l) (fun n s=>by rw[cU.l0,if_neg qom])
  (fun n s i h hs=>by
   rw[cU.l0,if_pos qom,ac qom,ac qom,qzd,qzc (show i<s.length by omega)]
   simp only[qzb]
   rw[wrS i qom])
  l.length 0 k (List.replicate l.length false) qom qom (by simp) (by simp)
 rw[show((0:Nat):Int)=0 from rfl] at this
 rw[this];rfl
theorem zU (k:Nat) (hk:1000000000000≤k) (mode:Int) (hmo:0≤mode∧mode≤4) (right:List GOcc) (left:List GOcc) (m c:Nat) (hm:m≤40000000000) (hc:right.length≤c) (hc2:c≤40000000000) (hcm:c * m≤40000000000) (hl:Ok m left) (hr:Ids right) :
  dY.l0 k mode right k left [] 0=some (right.foldl (fy mode before) (left,[])):=by
 have:=fd (fun s:List GOcc×List GOcc=>s) right (fun s e=>(cA.f k s.1 e).bind fun x52=>((aF.f k mode s.1 x52).bind fun x55=>((bf.f k mode x55.1 e).bind fun x61=>((aS.f k s.2 x61).bind fun x64=>some (x55.2,x64))))) (fun n s i=>dY.l0 k mode right n s.1 s.2 i) (fy mode before) (fun i s=>Ok m s.1∧Ok (i * m) s.2)
  (fun n s=>by rw[dY.l0,if_neg qom])
  (fun n s i h=>by
   rw[dY.l0,if_pos qom,ac qom,qzd,qzc h]
   simp only[qzb,qzQ]
   simp only[ac (show(0:Int)≤(i:Int) by omega),wrS i (show i<4611686018427387904 by omega)])
  (fun i s h hI=>by
   obtain⟨h1,h2⟩:=hI
   have ho:=hr _ (qze h)
   have hb:i * m≤40000000000:=qzz (qzp _ qom) hcm
   have hf:=h1.filter (before right[i])
   have hfo:=hf.found (mode:=mode) ho
   have:=h1.2.2;have:=h2.2.2;have:=hf.2.2;have:=hfo.2.2
   refine⟨?_,?_⟩
   ·rw[EY k hk _ _ qom]
    simp only[qzb]
    rw[yq k hk mode hmo _ _ qom h1.2.1.few]
    simp only[qzb]
    rw[tG k hk mode _ _ _ qom h1.2.1 ho]
    simp only[qzb]
    rw[ep k hk _ _ qom h2.2.1.few hfo.2.1.few]
    rfl
   ·have:=tO (mode:=mode) (p:=before) h1 h2 ho
    refine⟨this.1,?_⟩
    rw[pN]
    exact this.2)
  k (left,[]) qom ⟨hl,by simpa using Ok.nil 0⟩
 exact this.1
theorem sx {f:GOcc→GOcc} {z:GOcc}:∀{l acc:List GOcc},z∈acc→z∈l.foldl (fun s e=>cJ s (f e)) acc
 |[],_,h=>h
 |x::l,acc,h=>sx (l:=l) (gI.2 (.inl h))
theorem Ew (mode:Int) (o:GOcc) (l:List GOcc):(eZ mode o l).length=0↔l.length=0:=by
 unfold eZ
 by_cases h0:l.length=0
 ·simp[h0]
 ·rw[if_neg h0]
  split
  ·simp[h0]
  split
  ·simp[h0]
  split
  ·simp[h0]
  ·cases l with
   |nil=>simp at h0
   |cons x l=>
    have:dv o x∈wM o (x::l):=by
     unfold wM
     rw[ox]
     exact sx (gI.2 (.inr rfl))
    have:=List.length_pos_of_mem this
    simp at h0⊢
    intro e
    rw[e] at this
    simp at this
theorem w9 (l:List GOcc):l.filter (fun _=>true)=l:=List.filter_eq_self.2 fun _ _=>rfl
def kH (mode:Int) (own:List GOcc) (o:GOcc) (alone:Bool):List GOcc:=if mode=1 then[o] else if mode=0 then cJ own o else if alone=true then cJ own o else own
theorem G5 (k:Nat) (hk:1000000000000≤k) (mode:Int) (own:List GOcc) (o:GOcc) (alone:Bool) (m:Nat) (hm:m≤40000000000) (h:Ok m own):gf.f k mode own o alone=some (kH mode own o alone):=by
 unfold gf.f kH
 have:=h.2.2
 rw[kO k hk own o qom h.2.1.few h.1]
 simp only[qzb]
 split
 ·rfl
 split
 ·rfl
 split <;> rfl
theorem Ok.store {m:Nat} {mode:Int} {own:List GOcc} {o:GOcc} {alone:Bool} (h:Ok m own) (ho:cL o.Ids):Ok (m+1) (kH mode own o alone):=by
 unfold kH
 split
 ·exact⟨by simp[Asc],fun y hy=>by rw[List.mem_singleton.1 hy];exact ho,by simp⟩
 split
 ·exact h.put ho
 split
 ·exact h.put ho
 ·exact h.mono qom
/-- one met with those of the other side: its own side, the other side, what was found -/
def fW (mode:Int) (s:List GOcc×List GOcc×List GOcc) (o:GOcc):List GOcc×List GOcc×List GOcc:=
 (kH mode s.1 o (decide (s.2.1.length=0)),ow s.2.1 (if s.2.1.length=0 then[] else oV mode s.2.1),cM s.2.2 (eZ mode o s.2.1))
theorem BL {mode:Int} {s:List GOcc×List GOcc×List GOcc} {o:GOcc} {a b c:Nat} (h1:Ok a s.1) (h2:Ok b s.2.1) (h3:Ok c s.2.2) (ho:cL o.Ids):Ok (a+1) (fW mode s o).1∧Ok b (fW mode s o).2.1∧Ok (c+b) (fW mode s o).2.2:=
 ⟨h1.store ho,h2.rem,h3.merge (h2.found ho)⟩
/-- the program's half -/
theorem yI (k:Nat) (hk:1000000000000≤k) (mode:Int) (own other out:List GOcc) (o:GOcc) (a b c:Nat) (ha:a≤40000000000) (hb:b≤40000000000) (hc:c≤40000000000) (h1:Ok a own) (h2:Ok b other) (h3:Ok c out) (ho:cL o.Ids) :
  ((aJ.f k mode o other).bind fun x48=>((bc.f k out x48.1).bind fun x51=>((bz.f k other x48.2).bind fun x54=>((gf.f k mode own o ((x48.1.length:Int)==0)).bind fun x57=>some (x57,x54,x51)))))=some (fW mode (own,other,out) o):=by
 have hfo:=h2.found (mode:=mode) ho
 have hg:=h2.gone (mode:=mode)
 have:=h1.2.2;have:=h2.2.2;have:=h3.2.2;have:=hfo.2.2;have:=hg.2.2
 rw[nJ k hk mode o other qom h2.2.1 ho]
 simp only[qzb]
 rw[dk k hk _ _ qom h3.2.1.few hfo.2.1.few h3.1]
 simp only[qzb]
 rw[rh k hk _ _ qom qom hg.2.1.few hg.1]
 simp only[qzb]
 have e:(((eZ mode o other).length:Int)==0)=decide (other.length=0):=by
  rw[qzP]
  simp only[beq_iff_eq,decide_eq_true_eq]
  rw[←Ew mode o other]
  omega
 rw[e,G5 k hk mode own o _ a qom h1]
 rfl
/-- the reference's half -/
theorem zj (k:Nat) (hk:1000000000000≤k) (mode:Int) (hmo:0≤mode∧mode≤4) (own other out:List GOcc) (o:GOcc) (a b c:Nat) (ha:a≤40000000000) (hb:b≤40000000000) (hc:c≤40000000000) (h1:Ok a own) (h2:Ok b other) (h3:Ok c out) (ho:cL o.Ids) :
  ((gT.f k mode other own o).bind fun x36=>((aS.f k out x36.2.2).bind fun x39=>some (x36.2.1,x36.1,x39)))=some (fW mode (own,other,out) o):=by
 have hfo:=h2.found (mode:=mode) ho
 have:=h1.2.2;have:=h2.2.2;have:=h3.2.2;have:=hfo.2.2
 have hfew:Few o:=by have:=co ho;omega
 unfold gT.f
 rw[Gc k hk other qom]
 simp only[qzb]
 rw[yq k hk mode hmo other _ qom h2.2.1.few]
 simp only[qzb]
 rw[tG k hk mode o other _ qom h2.2.1 ho,mE k hk own o qom h1.2.1.few hfew]
 simp only[qzb,w9]
 have mg:=ep k hk out (eZ mode o other) qom h3.2.1.few hfo.2.1.few
 unfold fW kH
 by_cases m0:mode=0
 ·rw[if_pos m0]
  simp only[qzb,mg]
  rw[if_neg (show ¬mode=1 by omega),if_pos m0]
 rw[if_neg m0]
 by_cases m1:mode=1
 ·rw[if_pos m1]
  simp only[qzb,mg]
  rw[if_pos m1]
 rw[if_neg m1]
 have e:((nO mode other fun _=>true).length:Int)=0↔other.length=0:=by
  unfold nO
  rw[w9,if_neg m1]
  split
  ·rw[qzZ];omega
  ·omega
 by_cases h0:other.length=0
 ·rw[if_pos (e.2 h0)]
  simp only[qzb,mg]
  rw[if_neg m1,if_neg m0,if_pos (show decide (other.length=0)=true by simpa using h0)]
 ·rw[if_neg (fun x=>h0 (e.1 x))]
  simp only[qzb,mg]
  rw[if_neg m1,if_neg m0,if_neg (show ¬decide (other.length=0)=true by simpa using h0)]
/-- one on the right of a conjunction: left, right, found -/
def mM (mode:Int) (s:List GOcc×List GOcc×List GOcc) (o:GOcc):List GOcc×List GOcc×List GOcc:=
 ((fW mode (s.2.1,s.1,s.2.2) o).2.1,(fW mode (s.2.1,s.1,s.2.2) o).1,(fW mode (s.2.1,s.1,s.2.2) o).2.2)
def gi (mode:Int) (l r left right:List GOcc):List GOcc×List GOcc×List GOcc:=right.foldl (mM mode) (left.foldl (fW mode) (l,r,[]))
def kv (mode:Int) (l left right:List GOcc):List GOcc×List GOcc:=(cM (right.foldl (fy mode before) (l,[])).1 left,(right.foldl (fy mode before) (l,[])).2)
theorem xm (k:Nat) (hk:1000000000000≤k) (mode:Int) (p:GPair) (left right:List GOcc) (m c:Nat) (hm:m≤40000000000) (hc2:c≤40000000000) (hcm:c * m≤40000000000) (h1:Ok m p.Left) (hl:Ids left) (hr:Ids right) (hn:left.length≤40000000000) (hn2:right.length≤c) :
  cC.f k p mode left right=some (⟨(kv mode p.Left left right).1,p.Right⟩,(kv mode p.Left left right).2)∧Ok (m+left.length) (kv mode p.Left left right).1∧Ok (c * m) (kv mode p.Left left right).2:=by
 obtain⟨a,b,c⟩:=AF k hk mode right p.Left m c hm hn2 hc2 hcm h1 hr
 have:=b.2.2
 refine⟨?_,⟨gU b.1,jP b.2.1 hl,by have:=db left (right.foldl (fy mode before) (p.Left,[])).1;show(cM _ _).length≤_;omega⟩,c⟩
 unfold cC.f
 rw[a]
 simp only[qzb]
 rw[dk k hk _ _ qom b.2.1.few hl.few b.1]
 rfl
theorem BB (k:Nat) (hk:1000000000000≤k) (mode:Int) (hmo:0≤mode∧mode≤4) (p:GPair) (left right:List GOcc) (m c:Nat) (hm:m≤40000000000) (hc2:c≤40000000000) (hcm:c * m≤40000000000) (h1:Ok m p.Left) (hl:Ids left) (hr:Ids right) (hn:left.length≤40000000000) (hn2:right.length≤c) :
  dY.f k mode p left right=some (⟨(kv mode p.Left left right).1,p.Right⟩,(kv mode p.Left left right).2):=by
 obtain⟨_,b,_⟩:=AF k hk mode right p.Left m c hm hn2 hc2 hcm h1 hr
 have:=b.2.2
 unfold dY.f
 rw[zU k hk mode hmo right p.Left m c hm hn2 hc2 hcm h1 hr]
 simp only[qzb]
 rw[ep k hk _ _ qom b.2.1.few hl.few]
 rfl
def sm (mid:List GOcc) (a b:Int):Bool:=mid.any fun x=>decide (a<x.From)&&decide (x.To<b)
def ed (mid:List GOcc) (o s:GOcc):Bool:=decide (s.To<o.From)&& !sm mid s.To o.From
theorem BV (k:Nat) (mid:List GOcc) (a b:Int) (hl:mid.length≤40000000000):∀(d i n:Nat),i+d=mid.length→d<n→cu.l0 k mid a b n (i:Int)=some (if sm (mid.drop i) a b=true then .error true else .ok ()):=by
 intro d
 induction d with
 |zero=>
  intro i n hi hn
  obtain⟨n,rfl⟩:=qsc n
  rw[cu.l0,if_neg qom,qzn qom]
  rfl
 |succ d ih=>
  intro i n hi hn
  obtain⟨n,rfl⟩:=qsc n
  have h:i<mid.length:=by omega
  have nx:=ih (i+1) n qom qom
  rw[cu.l0,if_pos qom,ac qom,qzd,qzc h,qzj h]
  simp only[qzb]
  have e:sm (mid[i]::mid.drop (i+1)) a b=((decide (a<mid[i].From)&&decide (mid[i].To<b))||sm (mid.drop (i+1)) a b):=by unfold sm;rw[List.any_cons]
  rw[e]
  by_cases c1:a<mid[i].From
  ·rw[if_pos c1,ac qom]
   by_cases c2:mid[i].To<b
   ·rw[if_pos c2];simp[c1,c2]
   ·rw[if_neg c2,wrS i qom,nx];simp[c2]
  ·rw[if_neg c1,wrS i qom,nx];simp[c1]
theorem DA (k:Nat) (hk:1000000000000≤k) (mid:List GOcc) (a b:Int) (hl:mid.length≤40000000000):cu.f k mid a b=some (sm mid a b):=by
 unfold cu.f
 have:=BV k mid a b hl mid.length 0 k qom qom
 rw[show((0:Nat):Int)=0 from rfl,qzB] at this
 rw[this]
 cases sm mid a b <;> rfl
theorem zf (k:Nat) (hk:1000000000000≤k) (s:GSpan) (o:GOcc) (hl:s.Left.length≤40000000000) (hm:s.Mid.length≤40000000000):cH.f k s o=some (s.Left.map (ed s.Mid o)):=by
 unfold cH.f
 rw[ac qom,ac qom,ac qom]
 have:=vp s.Left (ed s.Mid o) (cH.l0 k s o) (fun n t=>by rw[cH.l0,if_neg qom])
  (fun n t i h hs=>by
   rw[cH.l0,if_pos qom,ac qom,qzd,qzc h]
   simp only[qzb]
   unfold ed
   by_cases c:s.Left[i].To<o.From
   ·rw[if_pos c,ac qom,DA k hk _ _ _ hm]
    simp only[qzb]
    rw[ac qom,ac qom,qzc (show i<t.length by omega)]
    simp only[qzb]
    rw[wrS i qom]
    simp[c]
   ·rw[if_neg c,ac qom,ac qom,qzc (show i<t.length by omega)]
    simp only[qzb]
    rw[wrS i qom]
    simp[c])
  s.Left.length 0 k (List.replicate s.Left.length false) qom qom (by simp) (by simp)
 rw[show((0:Nat):Int)=0 from rfl] at this
 rw[this];rfl
theorem Er (k:Nat) (g1:GOcc→Option Bool) (p:GOcc→Bool) (l:List GOcc) (hl:l.length≤40000000000) (hp:∀x∈l,g1 x=some (p x)):∀(d i n:Nat),i+d=l.length→d<n→
  ∃r,aC.l0 k g1 l n (i:Int)=some r∧(((l.drop i).any p=false∧r= .ok ())∨((l.drop i).any p=true∧∃j:Nat,r= .error (j:Int))):=by
 intro d
 induction d with
 |zero=>
  intro i n hi hn
  obtain⟨n,rfl⟩:=qsc n
  rw[aC.l0,if_neg qom,qzn qom]
  exact⟨_,rfl,.inl ⟨rfl,rfl⟩⟩
 |succ d ih=>
  intro i n hi hn
  obtain⟨n,rfl⟩:=qsc n
  have h:i<l.length:=by omega
  rw[aC.l0,if_pos qom,ac qom,qzd,qzc h,qzj h]
  simp only[qzb,hp _ (qze h),List.any_cons]
  by_cases c:p l[i]=true
  ·rw[if_pos c]
   exact⟨_,rfl,.inr ⟨by simp[c],i,rfl⟩⟩
  ·rw[if_neg c,wrS i qom]
   have c':p l[i]=false:=by simpa using c
   rw[c',oc]
   exact ih (i+1) n qom qom
theorem CN (k:Nat) (hk:1000000000000≤k) (g1:GOcc→Option Bool) (p:GOcc→Bool) (l:List GOcc) (hl:l.length≤40000000000) (hp:∀x∈l,g1 x=some (p x)):ba.f g1 k l=some (l.any p):=by
 unfold ba.f aC.f
 obtain⟨r,h1,h2⟩:=Er k g1 p l hl hp l.length 0 k qom qom
 rw[show((0:Nat):Int)=0 from rfl] at h1
 rw[qzB] at h2
 rw[h1]
 rcases h2 with⟨h2,rfl⟩|⟨h2,j,rfl⟩
 ·rw[h2];rfl
 ·rw[h2]
  simp only[qzb]
  congr 1
theorem Df (k:Nat) (hk:1000000000000≤k) (s:GSpan) (o:GOcc) (hl:s.Left.length≤40000000000) (hm:s.Mid.length≤40000000000):fe.f k s o=some (s.Left.filter (ed s.Mid o)):=by
 unfold fe.f
 rw[oa k hk _ (ed s.Mid o) s.Left hl (fun x hx=>by
  unfold iY.f ed
  by_cases c:x.To<o.From
  ·rw[if_pos c,CN k hk _ (fun y=>decide (x.To<y.From)&&decide (y.To<o.From)) s.Mid hm (fun y hy=>by
    unfold gV.f
    by_cases c2:x.To<y.From
    ·rw[if_pos c2];simp[c2]
    ·rw[if_neg c2];simp[c2])]
   simp only[qzb,sm]
   simp[c]
  ·rw[if_neg c];simp[c])]
 rfl
theorem AC (k:Nat) (hk:1000000000000≤k) (mode:Int) (sp:GSpan) (right:List GOcc) (m c:Nat) (hm:m≤40000000000) (hc2:c≤40000000000) (hcm:c * m≤40000000000) (hc:right.length≤c) (hl:Ok m sp.Left) (hmid:sp.Mid.length≤40000000000) (hr:Ids right) :
  cz.l0 k sp mode right k sp.Left [] 0=some (right.foldl (fy mode (ed sp.Mid)) (sp.Left,[]))∧Ok m (right.foldl (fy mode (ed sp.Mid)) (sp.Left,[])).1∧Ok (c * m) (right.foldl (fy mode (ed sp.Mid)) (sp.Left,[])).2:=by
 have:=fd (fun s:List GOcc×List GOcc=>s) right (fun s e=>(fe.f k ⟨s.1,sp.Mid⟩ e).bind fun x46=>((aJ.f k mode e x46).bind fun x49=>((bc.f k s.2 x49.1).bind fun x52=>((bz.f k s.1 x49.2).bind fun x55=>some (x55,x52))))) (fun n s i=>cz.l0 k sp mode right n s.1 s.2 i) (fy mode (ed sp.Mid)) (fun i s=>Ok m s.1∧Ok (i * m) s.2)
  (fun n s=>by rw[cz.l0,if_neg qom])
  (fun n s i h=>by
   rw[cz.l0,if_pos qom,ac qom,qzd,qzc h]
   simp only[qzb,qzQ]
   rw[wrS i qom])
  (fun i s h hI=>by
   obtain⟨h1,h2⟩:=hI
   have ho:=hr _ (qze h)
   have hb:i * m≤40000000000:=qzz (qzp _ qom) hcm
   have hf:=h1.filter (ed sp.Mid right[i])
   have hfo:=hf.found (mode:=mode) ho
   have hg:=hf.gone (mode:=mode)
   have:=h1.2.2;have:=h2.2.2;have:=hf.2.2;have:=hfo.2.2;have:=hg.2.2
   refine⟨?_,?_⟩
   ·rw[Df k hk ⟨s.1,sp.Mid⟩ _ (show s.1.length≤40000000000 by omega) hmid]
    simp only[qzb]
    rw[nJ k hk mode _ _ qom hf.2.1 ho]
    simp only[qzb]
    rw[dk k hk _ _ qom h2.2.1.few hfo.2.1.few h2.1]
    simp only[qzb]
    rw[rh k hk _ _ qom qom hg.2.1.few hg.1]
    rfl
   ·have:=tO (mode:=mode) (p:=ed sp.Mid) h1 h2 ho
    refine⟨this.1,?_⟩
    rw[pN]
    exact this.2)
  k (sp.Left,[]) qom ⟨hl,by simpa using Ok.nil 0⟩
 exact⟨this.1,this.2.1,this.2.2.mono (qzp _ hc)⟩
theorem zV (k:Nat) (hk:1000000000000≤k) (mode:Int) (hmo:0≤mode∧mode≤4) (sp:GSpan) (right:List GOcc) (m c:Nat) (hm:m≤40000000000) (hc2:c≤40000000000) (hcm:c * m≤40000000000) (hc:right.length≤c) (hl:Ok m sp.Left) (hmid:sp.Mid.length≤40000000000) (hr:Ids right) :
  d9.l0 k mode sp right k sp.Left [] 0=some (right.foldl (fy mode (ed sp.Mid)) (sp.Left,[])):=by
 have:=fd (fun s:List GOcc×List GOcc=>s) right (fun s e=>(cH.f k ⟨s.1,sp.Mid⟩ e).bind fun x52=>((aF.f k mode s.1 x52).bind fun x55=>((bf.f k mode x55.1 e).bind fun x61=>((aS.f k s.2 x61).bind fun x64=>some (x55.2,x64))))) (fun n s i=>d9.l0 k mode sp right n s.1 s.2 i) (fy mode (ed sp.Mid)) (fun i s=>Ok m s.1∧Ok (i * m) s.2)
  (fun n s=>by rw[d9.l0,if_neg qom])
  (fun n s i h=>by
   rw[d9.l0,if_pos qom,ac qom,qzd,qzc h]
   simp only[qzb,qzQ]
   simp only[ac (show(0:Int)≤(i:Int) by omega),wrS i (show i<4611686018427387904 by omega)])
  (fun i s h hI=>by
   obtain⟨h1,h2⟩:=hI
   have ho:=hr _ (qze h)
   have hb:i * m≤40000000000:=qzz (qzp _ qom) hcm
   have hf:=h1.filter (ed sp.Mid right[i])
   have hfo:=hf.found (mode:=mode) ho
   have:=h1.2.2;have:=h2.2.2;have:=hf.2.2;have:=hfo.2.2
   refine⟨?_,?_⟩
   ·rw[zf k hk ⟨s.1,sp.Mid⟩ _ (show s.1.length≤40000000000 by omega) hmid]
    simp only[qzb]
    rw[yq k hk mode hmo _ _ qom h1.2.1.few]
    simp only[qzb]
    rw[tG k hk mode _ _ _ qom h1.2.1 ho]
    simp only[qzb]
    rw[ep k hk _ _ qom h2.2.1.few hfo.2.1.few]
    rfl
   ·have:=tO (mode:=mode) (p:=ed sp.Mid) h1 h2 ho
    refine⟨this.1,?_⟩
    rw[pN]
    exact this.2)
  k (sp.Left,[]) qom ⟨hl,by simpa using Ok.nil 0⟩
 exact this.1
def gb (mode:Int) (l mid a b c:List GOcc):List GOcc×List GOcc×List GOcc:=(cM (c.foldl (fy mode (ed mid)) (l,[])).1 a,cM mid b,(c.foldl (fy mode (ed mid)) (l,[])).2)
theorem yd (k:Nat) (hk:1000000000000≤k) (mode:Int) (sp:GSpan) (a b c:List GOcc) (m n:Nat) (hm:m≤40000000000) (hn2:n≤40000000000) (hnm:n * m≤40000000000) (h1:Ok m sp.Left) (h2:Ok m sp.Mid) (ha:Ids a) (hb:Ids b) (hc:Ids c) (na:a.length≤40000000000) (nb:b.length≤40000000000) (nc:c.length≤n) :
  cz.f k sp mode a b c=some (⟨(gb mode sp.Left sp.Mid a b c).1,(gb mode sp.Left sp.Mid a b c).2.1⟩,(gb mode sp.Left sp.Mid a b c).2.2)∧Ok (m+a.length) (gb mode sp.Left sp.Mid a b c).1∧Ok (m+b.length) (gb mode sp.Left sp.Mid a b c).2.1∧Ok (n * m) (gb mode sp.Left sp.Mid a b c).2.2:=by
 have q:=h2.2.2
 obtain⟨x,y,z⟩:=AC k hk mode sp c m n hm hn2 hnm nc h1 qom hc
 have:=y.2.2
 refine⟨?_,⟨gU y.1,jP y.2.1 ha,qzz (db _ _) qom⟩,⟨gU h2.1,jP h2.2.1 hb,qzz (db _ _) qom⟩,z⟩
 unfold cz.f
 rw[x]
 simp only[qzb]
 rw[dk k hk _ _ qom y.2.1.few ha.few y.1]
 simp only[qzb]
 rw[dk k hk _ _ qom h2.2.1.few hb.few h2.1]
 rfl
theorem AS (k:Nat) (hk:1000000000000≤k) (mode:Int) (hmo:0≤mode∧mode≤4) (sp:GSpan) (a b c:List GOcc) (m n:Nat) (hm:m≤40000000000) (hn2:n≤40000000000) (hnm:n * m≤40000000000) (h1:Ok m sp.Left) (h2:Ok m sp.Mid) (ha:Ids a) (hb:Ids b) (hc:Ids c) (na:a.length≤40000000000) (nb:b.length≤40000000000) (nc:c.length≤n) :
  d9.f k mode sp a b c=some (⟨(gb mode sp.Left sp.Mid a b c).1,(gb mode sp.Left sp.Mid a b c).2.1⟩,(gb mode sp.Left sp.Mid a b c).2.2):=by
 have q:=h2.2.2
 obtain⟨_,y,_⟩:=AC k hk mode sp c m n hm hn2 hnm nc h1 qom hc
 have:=y.2.2
 unfold d9.f
 rw[zV k hk mode hmo sp c m n hm hn2 hnm nc h1 qom hc]
 simp only[qzb]
 rw[ep k hk _ _ qom y.2.1.few ha.few]
 simp only[qzb]
 rw[ep k hk _ _ qom h2.2.1.few hb.few]
 rfl
theorem GH (k:Nat) (hk:1000000000000≤k) (l:List GOcc) (p:GOcc→Bool) (hl:l.length≤40000000000):aB.l0 k l (l.map p) k [] 0=some (l.filter p):=by
 have:=cD l (fun s e=>if p e=true then(req ((s.length+1) * 40≤140737488355328) (some (s++[e]))) else some s) (aB.l0 k l (l.map p)) (fun s e=>if p e=true then s++[e] else s) (fun i s=>s.length≤i)
  (fun n s=>by rw[aB.l0,if_neg qom])
  (fun n s i h=>by
   rw[aB.l0,if_pos qom,ac qom,qzd,qzC,qzc h]
   simp only[qzL,qzb]
   rw[wrS i qom]
   split
   ·rw[ac qom,ac qom];unfold req;split <;> rfl
   ·rfl)
  (fun i s h hI=>by
   by_cases c:p l[i]=true
   ·rw[if_pos c,if_pos c,ac qom];exact⟨rfl,by simp;omega⟩
   ·rw[if_neg c,if_neg c];exact⟨rfl,by omega⟩)
  k [] qom (by simp)
 rw[this.1,fK];rfl
theorem G4 (k:Nat) (hk:1000000000000≤k) (l:List GOcc) (p:GOcc→Bool) (hl:l.length≤40000000000):aB.l2 k l (l.map p) k [] 0=some (l.filter fun e=> !p e):=by
 have:=cD l (fun s e=>if p e=true then some s else(req ((s.length+1) * 40≤140737488355328) (some (s++[e])))) (aB.l2 k l (l.map p)) (fun s e=>if(!p e)=true then s++[e] else s) (fun i s=>s.length≤i)
  (fun n s=>by rw[aB.l2,if_neg qom])
  (fun n s i h=>by
   rw[aB.l2,if_pos qom,ac qom,qzd,qzC,qzc h]
   simp only[qzL,qzb]
   rw[wrS i qom]
   split
   ·rfl
   ·rw[ac qom,ac qom];unfold req;split <;> rfl)
  (fun i s h hI=>by
   by_cases c:p l[i]=true
   ·rw[if_pos c,if_neg (by simp[c])];exact⟨rfl,by omega⟩
   ·rw[if_neg c,if_pos (by simp[c]),ac qom];exact⟨rfl,by simp;omega⟩)
  k [] qom (by simp)
 rw[this.1,fK];rfl
theorem Gw (k:Nat) (hk:1000000000000≤k) (l:List GOcc) (p:GOcc→Bool) (hl:l.length≤40000000000) (hf:fZ l) (x:GOcc) (t:List GOcc):aB.l1 k l (l.map p) (x::t) k [] 0=some (l.filter fun e=> !(p e&&decide (bx e x=0))):=by
 have:=cD l (fun s e=>if p e=true then(if bx e x=0 then some s else(req ((s.length+1) * 40≤140737488355328) (some (s++[e])))) else(req ((s.length+1) * 40≤140737488355328) (some (s++[e])))) (aB.l1 k l (l.map p) (x::t)) (fun s e=>if(!(p e&&decide (bx e x=0)))=true then s++[e] else s) (fun i s=>s.length≤i)
  (fun n s=>by rw[aB.l1,if_neg qom])
  (fun n s i h=>by
   rw[aB.l1,if_pos qom,ac qom,qzd,qzC,qzc h]
   simp only[qzL,qzb]
   rw[wrS i qom]
   split
   ·rw[ac qom,ac qom,ac qom,ac qom]
    simp only[qzs,qzb,B0 _ x (hf _ (qze h)) k hk]
    by_cases c:bx l[i] x=0
    ·rw[if_pos (by simpa using c),if_pos c];rfl
    ·rw[if_neg (by simpa using c),if_neg c,ac qom,ac qom];unfold req;split <;> rfl
   ·rw[ac qom,ac qom];unfold req;split <;> rfl)
  (fun i s h hI=>by
   by_cases c:p l[i]=true
   ·by_cases c2:bx l[i] x=0
    ·rw[if_pos c,if_pos c2,if_neg (by simp[c,c2])];exact⟨rfl,by omega⟩
    ·rw[if_pos c,if_neg c2,if_pos (by simp[c2]),ac qom];exact⟨rfl,by simp;omega⟩
   ·rw[if_neg c,if_pos (by simp[c]),ac qom];exact⟨rfl,by simp;omega⟩)
  k [] qom (by simp)
 rw[this.1,fK];rfl
theorem Gm (k:Nat) (hk:1000000000000≤k) (mode:Int) (l:List GOcc) (p:GOcc→Bool) (hl:l.length≤40000000000) (hf:fZ l) :
  aB.f k mode l (l.map p)=some (nO mode l p,l):=by
 unfold aB.f nO
 rw[GH k hk l p hl]
 simp only[qzb]
 have hlen:(l.filter p).length≤l.length:=vI _ _
 generalize hs:l.filter p=s at hlen⊢
 by_cases h0:s.length=0
 ·rw[if_pos qom]
  have e:s=[]:=List.length_eq_zero_iff.1 h0
  subst e
  simp
 rw[if_neg qom]
 by_cases m0:mode=0
 ·subst m0
  simp
 rw[if_neg m0]
 by_cases m1:mode=1
 ·obtain⟨j,hj⟩:∃j,s.length=j+1:=⟨s.length-1,by omega⟩
  have e:IntKind.wrap .i64 (((s.length:Nat):Int)-1)=(j:Int):=by rw[hj];exact wrP j qom
  rw[if_pos m1,if_pos m1,e,ac qom,ac qom,ac qom,qzd,show s.length-1=j by omega,qzD (by rw[qzU];omega)]
 rw[if_neg m1,if_neg m1]
 by_cases m2:mode=2
 ·rw[if_pos m2,if_pos m2,ac qom,ac qom,ac qom]
  cases s with
  |nil=>simp at h0
  |cons x t=>
   rw[Gw k hk l p hl hf x t]
   rfl
 rw[if_neg m2,if_neg m2,G4 k hk l p hl]
 rfl
def F5 (mode:Int) (l mid b:List GOcc):List GOcc:=b.foldl (fun s o=>cM s (eZ mode o (l.filter (ed mid o)))) []
def cF (mode:Int) (l mid a b c:List GOcc):List GOcc×List GOcc×List GOcc:=(cM l a,cM mid c,F5 mode l mid b)
theorem vx (k:Nat) (hk:1000000000000≤k) (mode:Int) (sp:GSpan) (a b c:List GOcc) (m n:Nat) (hm:m≤40000000000) (hn2:n≤40000000000) (hnm:n * m≤40000000000) (h1:Ok m sp.Left) (h2:Ok m sp.Mid) (ha:Ids a) (hb:Ids b) (hc:Ids c) (na:a.length≤40000000000) (nb:b.length≤n) (nc:c.length≤40000000000) :
  ct.f k sp mode a b c=some (⟨(cF mode sp.Left sp.Mid a b c).1,(cF mode sp.Left sp.Mid a b c).2.1⟩,(cF mode sp.Left sp.Mid a b c).2.2)∧Ok (m+a.length) (cF mode sp.Left sp.Mid a b c).1∧Ok (m+c.length) (cF mode sp.Left sp.Mid a b c).2.1∧Ok (n * m) (cF mode sp.Left sp.Mid a b c).2.2:=by
 have q1:=h1.2.2
 have q2:=h2.2.2
 have:=cD b (fun s e=>(fe.f k sp e).bind fun x38=>((aJ.f k mode e x38).bind fun x41=>bc.f k s x41.1)) (ct.l0 k sp mode b) (fun s o=>cM s (eZ mode o (sp.Left.filter (ed sp.Mid o)))) (fun i s=>Ok (i * m) s)
  (fun n s=>by rw[ct.l0,if_neg qom])
  (fun n s i h=>by
   rw[ct.l0,if_pos qom,ac qom,qzd,qzc h]
   simp only[qzb,qzQ]
   rw[wrS i qom])
  (fun i s h hI=>by
   have ho:=hb _ (qze h)
   have hbm:i * m≤40000000000:=qzz (qzp _ qom) hnm
   have hf:=h1.filter (ed sp.Mid b[i])
   have hfo:=hf.found (mode:=mode) ho
   have:=hI.2.2;have:=hf.2.2;have:=hfo.2.2
   refine⟨?_,?_⟩
   ·rw[Df k hk sp _ qom qom]
    simp only[qzb]
    rw[nJ k hk mode _ _ qom hf.2.1 ho]
    simp only[qzb]
    rw[dk k hk _ _ qom hI.2.1.few hfo.2.1.few hI.1]
   ·rw[pN]
    exact hI.merge hfo)
  k [] qom (by simpa using Ok.nil 0)
 refine⟨?_,⟨gU h1.1,jP h1.2.1 ha,qzz (db _ _) qom⟩,⟨gU h2.1,jP h2.2.1 hc,qzz (db _ _) qom⟩,this.2.mono (qzp _ nb)⟩
 unfold ct.f
 rw[this.1]
 simp only[qzb]
 rw[dk k hk _ _ qom h1.2.1.few ha.few h1.1]
 simp only[qzb]
 rw[dk k hk _ _ qom h2.2.1.few hc.few h2.1]
 rfl
theorem zN (k:Nat) (hk:1000000000000≤k) (mode:Int) (sp:GSpan) (a b c:List GOcc) (m n:Nat) (hm:m≤40000000000) (hn2:n≤40000000000) (hnm:n * m≤40000000000) (h1:Ok m sp.Left) (h2:Ok m sp.Mid) (ha:Ids a) (hb:Ids b) (hc:Ids c) (na:a.length≤40000000000) (nb:b.length≤n) (nc:c.length≤40000000000) :
  dS.f k mode sp a b c=some (⟨(cF mode sp.Left sp.Mid a b c).1,(cF mode sp.Left sp.Mid a b c).2.1⟩,(cF mode sp.Left sp.Mid a b c).2.2):=by
 have q1:=h1.2.2
 have q2:=h2.2.2
 have:=fd (fun s:List GOcc=>(sp.Left,s)) b (fun s e=>(bf.f k mode (nO mode sp.Left (ed sp.Mid e)) e).bind fun x63=>aS.f k s x63) (fun n s i=>dS.l0 k mode sp b n sp.Left s i) (fun s o=>cM s (eZ mode o (sp.Left.filter (ed sp.Mid o)))) (fun i s=>Ok (i * m) s)
  (fun n s=>by rw[dS.l0,if_neg qom])
  (fun n s i h=>by
   rw[dS.l0,if_pos qom,ac qom,qzd,qzc h]
   simp only[qzb,qzQ]
   rw[zf k hk ⟨sp.Left,sp.Mid⟩ _ (show sp.Left.length≤40000000000 by omega) (show sp.Mid.length≤40000000000 by omega)]
   simp only[qzb]
   rw[Gm k hk mode _ _ qom h1.2.1.few]
   simp only[qzb]
   rw[ac trivial,ac qom,wrS i qom])
  (fun i s h hI=>by
   have ho:=hb _ (qze h)
   have hbm:i * m≤40000000000:=qzz (qzp _ qom) hnm
   have hf:=h1.filter (ed sp.Mid b[i])
   have hfo:=hf.found (mode:=mode) ho
   have:=hI.2.2;have:=hf.2.2;have:=hfo.2.2
   refine⟨?_,?_⟩
   ·rw[tG k hk mode _ _ _ qom h1.2.1 ho]
    simp only[qzb]
    rw[ep k hk _ _ qom hI.2.1.few hfo.2.1.few]
   ·rw[pN]
    exact hI.merge hfo)
  k [] qom (by simpa using Ok.nil 0)
 unfold dS.f
 rw[this.1]
 simp only[qzb]
 rw[ep k hk _ _ qom h1.2.1.few ha.few]
 simp only[qzb]
 rw[ep k hk _ _ qom h2.2.1.few hc.few]
 rfl


def atM (l:List GOcc) (t:Int):List GOcc:=l.filter fun x=>x.To==t
theorem wv (k:Nat) (hk:1000000000000≤k) (l:List GOcc) (t:Int) (hl:l.length≤40000000000):nU.f k l t=some (atM l t):=by
 unfold nU.f
 rw[oa k hk (fun y0=>pq.f y0 t) (fun x=>x.To==t) l hl (fun x hx=>rfl)];rfl
abbrev Two:=List GOcc×List GOcc
def Ie (mode:Int) (p:Two) (l r:List GOcc):Two×List GOcc:=(((kv mode p.1 l r).1,p.2),(kv mode p.1 l r).2)
def Ib (mode:Int) (p:Two) (l r:List GOcc):Two×List GOcc:=(((gi mode p.1 p.2 l r).1,(gi mode p.1 p.2 l r).2.1),(gi mode p.1 p.2 l r).2.2)
def I9 (mode:Int) (p:Two) (a b c:List GOcc):Two×List GOcc:=(((gb mode p.1 p.2 a b c).1,(gb mode p.1 p.2 a b c).2.1),(gb mode p.1 p.2 a b c).2.2)
def Hj (mode:Int) (p:Two) (a b c:List GOcc):Two×List GOcc:=(((cF mode p.1 p.2 a b c).1,(cF mode p.1 p.2 a b c).2.1),(cF mode p.1 p.2 a b c).2.2)
theorem vE {α σ:Type} (g:σ→α→σ) (Inv:Nat→σ→Prop):∀(l:List α) (i:Nat) (s:σ),(∀j s (h:j<l.length),Inv (i+j) s→Inv (i+j+1) (g s l[j]))→Inv i s→Inv (i+l.length) (l.foldl g s)
 |[],i,s,_,h=>h
 |x::l,i,s,hs,h=>by
  have h1:=hs 0 s (by simp) h
  have:=vE g Inv l (i+1) (g s x) (fun j s' hj hI=>by
   have:=hs (j+1) s' (by simp;omega) (by rw[show i+(j+1)=i+1+j by omega];exact hI)
   rw[show i+(j+1)+1=i+1+j+1 by omega] at this
   exact this) h1
  rw[ox,qzm,show i+(l.length+1)=i+1+l.length by omega]
  exact this
theorem sa (mode:Int):eJ.f mode=some (decide (0≤mode)&&decide (mode≤4))∧gm.f mode=some (decide (0≤mode)&&decide (mode≤4)):=by
 refine⟨?_,?_⟩
 ·unfold eJ.f
  rw[fi];rfl
 ·unfold gm.f
  split
  ·have:¬0≤mode:=by omega
   simp[this]
  ·have:0≤mode:=by omega
   simp[this]
   omega
theorem yS {mode:Int} (hmo:0≤mode∧mode≤4):eJ.f mode=some true∧gm.f mode=some true:=by
 obtain⟨a,b⟩:=sa mode
 rw[a,b]
 simp[hmo]

def jC (n:Int) (o:GOcc):GOcc:=⟨o.From,o.To+n,o.Ids⟩
theorem CQ (a b:GOcc):bK a b=true↔a.To<b.To∨(a.To=b.To∧(a.From<b.From∨(a.From=b.From∧cR a.Ids b.Ids<0))):=by
 unfold bK
 rw[decide_eq_true_eq,zn]
theorem ET {α:Type} (l:List α) (i:Nat) (h:i<l.length):l.take (i+1)=l.take i++[l[i]]:=by
 rw[xJ,qzc h];rfl
theorem Gj {n:Int} {o:GOcc} (h:Few o):Few (jC n o):=h
def BM (l:List GEv):Int:=match l.getLast? with|some e=>e.At|none=>0
theorem wD (l:List GEv) (hl:l.length≤1000000):jj.f l=some (BM l)∧gX.f l=some (BM l):=by
 have:(if(l.length:Int)=0 then some (0:Int) else(req ((0:Int)≤(IntKind.wrap .i64 ((l.length:Int)-1))) ((l[(IntKind.wrap .i64 ((l.length:Int)-1)).toNat]?).bind fun e4=>(some e4.At))))=some (BM l):=by
  unfold BM
  by_cases h:(l.length:Int)=0
  ·have e:l=[]:=List.length_eq_zero_iff.1 qom
   subst e;rfl
  ·rw[if_neg h,wr _ qom,ac qom,qzS,show((l.length:Int)-1).toNat=l.length-1 by omega,qzc (show l.length-1<l.length by omega)]
   rfl
 exact⟨this,this⟩
mutual
/-- how many nodes -/
def exN:GEx→Nat
 |⟨_,_,_,ks⟩=>1+em ks
def em:List GEx→Nat
 |[]=>0
 |x::xs=>exN x+em xs
end
theorem fC:em []=0:=by simp only[em]
theorem dB (x:GEx) (xs:List GEx):em (x::xs)=exN x+em xs:=by simp only[em]
theorem dI (e:GEx):exN e=1+em e.Kids:=by cases e;simp only[exN]
theorem ig:∀l:List GEx,l.length≤em l
 |[]=>by simp[fC]
 |x::xs=>by have:=ig xs;rw[dB,dI];simp only[qzm];omega
theorem eR {e:GEx}:∀{l:List GEx},e∈l→exN e≤em l
 |x::xs,h=>by
  rw[dB]
  rcases qzo.1 h with rfl|h
  ·omega
  ·have:=eR h;omega
mutual
theorem jE {P:GEx→Prop} (h:∀e:GEx,(∀x∈e.Kids,P x)→P e):∀e,P e
 |⟨a,b,c,ks⟩=>h ⟨a,b,c,ks⟩ (Fy h ks)
theorem Fy {P:GEx→Prop} (h:∀e:GEx,(∀x∈e.Kids,P x)→P e):∀l:List GEx,∀x∈l,P x
 |[],_,hx=>by simp at hx
 |y::ys,x,hx=>by
  rcases qzo.1 hx with e|hx
  ·rw[e];exact jE h y
  ·exact Fy h ys x hx
end
def fg (a:Int):Int:=if a=1 then 0 else if a=7 then 1 else if a=2 then 2 else if a=3 then 2 else if a=4 then 2 else if a=5 then 3 else if a=6 then 3 else -1
theorem lF (a:Int):gk.f a=some (fg a):=by
 unfold gk.f fg
 repeat' split
 all_goals rfl
def eI (e:GEx):Bool:=decide (fg e.Kind=(e.Kids.length:Int))&&decide (0≤e.Sym)&&decide (e.Sym<5)&&(decide (e.Kind=1)||decide (e.Sym=0))&&(if e.Kind=7 then decide (1≤e.N)&&decide (e.N≤20) else decide (e.N=0))
mutual
def cG:GEx→Bool
 |⟨a,b,c,ks⟩=>eI ⟨a,b,c,ks⟩&&mv ks
def mv:List GEx→Bool
 |[]=>true
 |x::xs=>cG x&&mv xs
end
mutual
def exD:GEx→Nat
 |⟨_,_,_,ks⟩=>1+kx ks
def kx:List GEx→Nat
 |[]=>0
 |x::xs=>max (exD x) (kx xs)
end
theorem iS (e:GEx):cG e=(eI e&&mv e.Kids):=by cases e;simp only[cG]
theorem kJ (e:GEx):exD e=1+kx e.Kids:=by cases e;simp only[exD]
theorem ju:∀l:List GEx,mv l=l.all cG
 |[]=>by simp only[mv];rfl
 |x::xs=>by simp only[mv,ju xs,qzK]
theorem lu:∀(l:List GEx) (d:Nat),kx l≤d↔∀x∈l,exD x≤d
 |[],d=>by simp[kx]
 |x::xs,d=>by
  simp only[kx,Nat.max_le,lu xs d,qzo]
  exact⟨fun h y hy=>hy.elim (fun e=>e▸h.1) (h.2 y),fun h=>⟨h x (.inl rfl),fun y hy=>h y (.inr hy)⟩⟩
/-- well formed, no deeper than d -/
def mI:Nat→GEx→Bool
 |0,_=>false
 |d+1,e=>eI e&&e.Kids.all (mI d)
theorem Bh:∀(d:Nat) (e:GEx),mI d e=(decide (exD e≤d)&&cG e)
 |0,e=>by rw[kJ];simp[mI]
 |d+1,e=>by
  rw[mI,iS,ju,kJ]
  have h:e.Kids.all (mI d)=(decide (1+kx e.Kids≤d+1)&&e.Kids.all cG):=by
   rw[qzP]
   simp only[qzN,qzf,decide_eq_true_eq,Bh d]
   constructor
   ·intro h
    refine⟨?_,fun x hx=>(h x hx).2⟩
    have:=(lu e.Kids d).2 fun x hx=>(h x hx).1
    omega
   ·rintro⟨h1,h2⟩ x hx
    exact⟨(lu e.Kids d).1 qom x hx,h2 x hx⟩
  rw[h]
  cases eI e <;> cases decide (1+kx e.Kids≤d+1) <;> rfl
theorem Bs (k:Nat) (rec':GEx→Int→Option Bool) (e:GEx) (q:Int) (g:GEx→Bool) (hl:e.Kids.length<4611686018427387904) (H:∀x∈e.Kids,rec' x (IntKind.wrap .i64 (q-1))=some (g x)) :
  ∀(d n i:Nat),i+d=e.Kids.length→d<n→
   ay.l0 k rec' e q n (i:Int)=some (if(e.Kids.drop i).all g then .ok () else .error false)∧
   ay.l1 k rec' e q n (i:Int)=some (if(e.Kids.drop i).all g then .ok () else .error false)∧
   ay.l2 k rec' e q n (i:Int)=some (if(e.Kids.drop i).all g then .ok () else .error false)∧
   ay.l3 k rec' e q n (i:Int)=some (if(e.Kids.drop i).all g then .ok () else .error false):=by
 intro d
 induction d with
 |zero=>
  intro n i hi hn
  obtain⟨n,rfl⟩:=qsc n
  rw[qzn qom]
  exact⟨by rw[ay.l0,if_neg qom];rfl,by rw[ay.l1,if_neg qom];rfl,by rw[ay.l2,if_neg qom];rfl,by rw[ay.l3,if_neg qom];rfl⟩
 |succ d ih=>
  intro n i hi hn
  obtain⟨n,rfl⟩:=qsc n
  have hlt:i<e.Kids.length:=by omega
  obtain⟨i0,i1,i2,i3⟩:=ih n (i+1) qom qom
  rw[qzj hlt,qzK]
  refine⟨?_,?_,?_,?_⟩
  ·rw[ay.l0,if_pos qom,ac qom,qzd,qzc hlt]
   simp only[qzb,H e.Kids[i] (qze hlt)]
   cases g e.Kids[i]
   ·rfl
   ·rw[if_pos rfl,wrS i qom,i0,qzk]
  ·rw[ay.l1,if_pos qom,ac qom,qzd,qzc hlt]
   simp only[qzb,H e.Kids[i] (qze hlt)]
   cases g e.Kids[i]
   ·rfl
   ·rw[if_pos rfl,wrS i qom,i1,qzk]
  ·rw[ay.l2,if_pos qom,ac qom,qzd,qzc hlt]
   simp only[qzb,H e.Kids[i] (qze hlt)]
   cases g e.Kids[i]
   ·rfl
   ·rw[if_pos rfl,wrS i qom,i2,qzk]
  ·rw[ay.l3,if_pos qom,ac qom,qzd,qzc hlt]
   simp only[qzb,H e.Kids[i] (qze hlt)]
   cases g e.Kids[i]
   ·rfl
   ·rw[if_pos rfl,wrS i qom,i3,qzk]
theorem BI:∀(d:Nat) (e:GEx) (k:Nat),d≤5→exN e≤1048577→3 * exN e≤k→ay.f k e (d:Int)=some (mI d e)
 |0,e,k,hd,hs,hk=>by
  rw[dI] at hk
  obtain⟨k,rfl⟩:=qsc k
  rw[ay.f,if_pos (by decide)];rfl
 |d+1,e,k,hd,hs,hk=>by
  rw[dI] at hk hs
  have hq:=ig e.Kids
  obtain⟨k,rfl⟩:=qsc k
  have hw:IntKind.wrap .i64 (((d+1:Nat):Int)-1)=(d:Int):=wrP d qom
  have H:∀x∈e.Kids,ay.f k x (IntKind.wrap .i64 (((d+1:Nat):Int)-1))=some (mI d x):=fun x hx=>by
   have:=eR hx
   rw[hw];exact BI d x k qom qom qom
  obtain⟨i0,i1,i2,i3⟩:=Bs k (ay.f k) e ((d+1:Nat):Int) (mI d) qom H e.Kids.length k 0 qom qom
  rw[show((0:Nat):Int)=0 from rfl,qzB] at i0 i1 i2 i3
  rw[ay.f,if_neg qom,lF]
  simp only[qzb,i0,i1,i2,i3,mI,eI]
  cases hA:e.Kids.all (mI d) <;> (repeat' split) <;> simp_all <;> omega
theorem CM (k:Nat) (rec':GEx→Int→Option Int) (e:GEx) (q:Int) (hq:0<q) (hl:e.Kids.length<4611686018427387904) (H:∀x∈e.Kids,rec' x (IntKind.wrap .i64 (q-1))=some (exN x:Int)) :
  ∀(d n i:Nat) (s:Int),i+d=e.Kids.length→d<n→0≤s→s+em (e.Kids.drop i)≤100000000→
   cx.l0 k rec' e q n s (i:Int)=some (s+em (e.Kids.drop i)):=by
 intro d
 induction d with
 |zero=>
  intro n i s hi hn h0 h1
  obtain⟨n,rfl⟩:=qsc n
  rw[cx.l0,if_neg qom,qzn qom,fC];simp
 |succ d ih=>
  intro n i s hi hn h0 h1
  obtain⟨n,rfl⟩:=qsc n
  have hlt:i<e.Kids.length:=by omega
  rw[qzj hlt,dB] at h1⊢
  rw[cx.l0,if_pos qom,if_pos hq,ac qom,qzd,qzc hlt]
  simp only[qzb,H e.Kids[i] (qze hlt)]
  push_cast at h1
  rw[wrS i qom,wr (s+_) qom,ih n (i+1) _ qom qom qom qom]
  congr 1;push_cast;omega
theorem A4:∀(d:Nat) (e:GEx) (k:Nat),d≤5→exD e≤d→exN e≤1048577→3 * exN e≤k→cx.f k e (d:Int)=some (exN e:Int)
 |0,e,k,_,hd,_,_=>by rw[kJ] at hd;omega
 |d+1,e,k,hd5,hd,hs,hk=>by
  rw[kJ] at hd
  rw[dI] at hk hs⊢
  have hq:=ig e.Kids
  obtain⟨k,rfl⟩:=qsc k
  have hdd:=(lu e.Kids d).1 qom
  have:=CM k (cx.f k) e ((d+1:Nat):Int) qom qom (fun x hx=>by
   have:=eR hx
   rw[wrP d qom];exact A4 d x k qom (hdd x hx) qom qom) e.Kids.length k 0 1 qom qom qom (by simp only[qzB];omega)
  rw[show((0:Nat):Int)=0 from rfl,qzB] at this
  rw[cx.f,this]
  simp
theorem I5:∀e:GEx,exD e≤exN e:=by
 refine jE fun e ih=>?_
 rw[kJ,dI]
 have:=(lu e.Kids (em e.Kids)).2 fun x hx=>by
  have:=ih x hx;have:=eR hx;omega
 omega
theorem FH (x:GEx) (xs:List GEx):kx (x::xs)=max (exD x) (kx xs):=by simp only[kx]
theorem ES (k:Nat) (rec':GEx→Option (Int×Int)) (e:GEx) (hl:e.Kids.length<4611686018427387904) (H:∀x∈e.Kids,rec' x=some ((exN x:Int),(exD x:Int))) (hb:em e.Kids≤1048577) :
  ∀(d n i:Nat) (s t:Int),i+d=e.Kids.length→d<n→0≤s→s+em (e.Kids.drop i)≤100000000→1≤t→
   bT.l0 k rec' e n s t (i:Int)=some (s+em (e.Kids.drop i),max t (1+kx (e.Kids.drop i):Nat)):=by
 intro d
 induction d with
 |zero=>
  intro n i s t hi hn h0 h1 h2
  obtain⟨n,rfl⟩:=qsc n
  rw[bT.l0,if_neg qom,qzn qom,fC,show kx []=0 by simp only[kx]]
  congr 2
  ·simp
  ·push_cast;omega
 |succ d ih=>
  intro n i s t hi hn h0 h1 h2
  obtain⟨n,rfl⟩:=qsc n
  have hlt:i<e.Kids.length:=by omega
  have hd:=I5 e.Kids[i]
  have hm:=eR (qze hlt:e.Kids[i]∈e.Kids)
  rw[qzj hlt,dB] at h1⊢
  rw[FH,bT.l0,if_pos qom,ac qom,qzd,qzc hlt]
  simp only[qzb,H e.Kids[i] (qze hlt)]
  push_cast at h1
  rw[wrS i qom,wr (s+_) qom,wr ((exD e.Kids[i]:Int)+1) qom]
  by_cases h:t<(exD e.Kids[i]:Int)+1
  ·rw[if_pos h,ih n (i+1) _ _ qom qom qom qom qom]
   congr 2
   ·push_cast;omega
   ·push_cast;omega
  ·rw[if_neg h,ih n (i+1) _ _ qom qom qom qom qom]
   congr 2
   ·push_cast;omega
   ·push_cast;omega
theorem IA:∀e:GEx,exN e≤1048577→∀k:Nat,3 * exN e≤k→bT.f k e=some ((exN e:Int),(exD e:Int)):=by
 refine jE fun e ih hs k hk=>?_
 rw[dI] at hk hs⊢
 rw[kJ]
 have hq:=ig e.Kids
 obtain⟨k,rfl⟩:=qsc k
 have:=ES k (bT.f k) e qom (fun x hx=>ih x hx (by have:=eR hx;omega) k (by have:=eR hx;omega)) qom e.Kids.length k 0 1 1 qom qom qom (by simp only[qzB];omega) qom
 rw[show((0:Nat):Int)=0 from rfl,qzB] at this
 rw[bT.f,this]
 simp only[qzb]
 congr 2
 push_cast;omega
theorem CG (k:Nat) (g:GEx→Option Bool) (h:GEx→Bool) (l:List GEx) (hl:l.length<4611686018427387904) (H:∀x∈l,g x=some (h x)) :
  ∀(d n i:Nat),i+d=l.length→d<n→∃r,bN.l0 k g l n (i:Int)=some r∧((∃j:Int,r= .error j∧0≤j∧(l.drop i).any h=true)∨(r= .ok ()∧(l.drop i).any h=false)):=by
 intro d
 induction d with
 |zero=>
  intro n i hi hn
  obtain⟨n,rfl⟩:=qsc n
  rw[bN.l0,if_neg qom,qzn qom]
  exact⟨_,rfl,.inr ⟨rfl,rfl⟩⟩
 |succ d ih=>
  intro n i hi hn
  obtain⟨n,rfl⟩:=qsc n
  have hlt:i<l.length:=by omega
  rw[bN.l0,if_pos qom,ac qom,qzd,qzc hlt,qzj hlt,List.any_cons]
  simp only[qzb,H l[i] (qze hlt)]
  cases hh:h l[i] with
  |true=>rw[if_pos rfl];exact⟨_,rfl,.inl ⟨_,rfl,by omega,rfl⟩⟩
  |false=>
   rw[if_neg (by decide),wrS i qom,oc]
   exact ih n (i+1) qom qom
theorem CH (k:Nat) (g:GEx→Option Bool) (h:GEx→Bool) (l:List GEx) (hl:l.length<4611686018427387904) (H:∀x∈l,g x=some (h x)) (hk:l.length<k):cn.f g k l=some (l.any h):=by
 obtain⟨r,h1,h2⟩:=CG k g h l hl H l.length k 0 qom hk
 rw[show((0:Nat):Int)=0 from rfl] at h1
 rw[qzB] at h2
 unfold cn.f bN.f
 rw[h1]
 rcases h2 with⟨j,rfl,h3,h4⟩|⟨rfl,h4⟩
 ·simp only[qzb,h4,qzh,tg,decide_eq_false_iff_not];omega
 ·simp only[qzb,h4];rfl
theorem BF (a:Int) (h:1≤a∧a≤7):mS.f a=some (fg a):=by
 have:a=1∨a=2∨a=3∨a=4∨a=5∨a=6∨a=7:=by omega
 rcases this with h|h|h|h|h|h|h <;> subst h <;> rfl
theorem FB (a:Int) (h:¬(1≤a∧a≤7)):fg a= -1:=by
 unfold fg
 repeat rw[if_neg qom]
theorem in_k (a b c:Int):bw.f a b c=some (decide (b≤a)&&decide (a≤c)):=fi a b c
theorem HT (l:List GEx):(!(l.any fun x=> !cG x))=mv l:=by
 rw[ju]
 induction l with
 |nil=>rfl
 |cons x xs ih=>simp only[List.any_cons,qzK,←ih];cases cG x <;> simp
theorem GF:∀e:GEx,exN e≤1048577→∀k:Nat,3 * exN e≤k→eU.f k e=some (cG e):=by
 refine jE fun e ih hs k hk=>?_
 rw[dI] at hk hs
 have hq:=ig e.Kids
 obtain⟨k,rfl⟩:∃m,k=m+2:=⟨k-2,by omega⟩
 have hc:cn.f (fun y0=>dE.f (k+1) y0) (k+1) e.Kids=some (e.Kids.any fun x=> !cG x):=by
  refine CH (k+1) _ _ _ qom (fun x hx=>?_) qom
  have:=eR hx
  rw[dE.f,ih x hx qom k qom];rfl
 rw[eU.f,iS,←HT]
 simp only[ib.f,eM.f,in_k,hc,qzb]
 by_cases hk7:1≤e.Kind∧e.Kind≤7
 ·simp only[BF e.Kind hk7,qzb,eI]
  cases hA:e.Kids.any (fun x=> !cG x) <;> (repeat' split) <;> simp_all <;> omega
 ·have h0:=FB e.Kind hk7
  have h1:eI e=false:=by
   unfold eI
   rw[h0]
   have:¬((-1:Int)=(e.Kids.length:Int)):=by omega
   simp[this]
  have h2:(decide (1≤e.Kind)&&decide (e.Kind≤7))=false:=by
   rw[Bool.eq_false_iff];simp only[ne_eq,qzf,decide_eq_true_eq];exact hk7
  rw[h1,h2];rfl
def lj (e:GEx):Bool:=decide (exN e≤12)&&decide (exD e≤5)&&cG e
theorem mB (e:GEx) (hs:exN e≤1048577) (k:Nat) (hk:3 * exN e≤k):iT.f k e=some (lj e):=by
 unfold iT.f
 rw[show(5:Int)=((5:Nat):Int) from rfl,BI 5 e k qom hs hk,Bh]
 simp only[qzb,lj]
 by_cases hd:exD e≤5
 ·rw[A4 5 e k qom hd hs hk]
  cases cG e
  ·simp
  ·simp only[hd,decide_true,Bool.and_self,if_true,qzb,Bool.and_true]
   by_cases h:exN e≤12
   ·simp[h];omega
   ·simp[h];omega
 ·simp[hd]
theorem Cs (e:GEx) (hs:exN e≤1048577) (k:Nat) (hk:3 * exN e≤k):m8.f k e=some (lj e):=by
 unfold m8.f
 rw[IA e hs k hk,GF e hs k hk]
 simp only[qzb,lj]
 by_cases h:12<(exN e:Int)
 ·rw[if_pos h];simp;omega
 ·rw[if_neg h]
  by_cases h2:5<(exD e:Int)
  ·rw[if_pos h2];simp;omega
  ·rw[if_neg h2]
   have a1:exN e≤12:=by omega
   have a2:exD e≤5:=by omega
   simp[a1,a2]
theorem cT {e:GEx} (h:cG e=true):eI e=true∧∀x∈e.Kids,cG x=true:=by
 rw[iS,qzf,ju,qzN] at h
 exact h
theorem gZ {e:GEx} (h:eI e=true):(e.Kind=1∧e.Kids.length=0)∨(e.Kind=2∧e.Kids.length=2)∨(e.Kind=3∧e.Kids.length=2)∨(e.Kind=4∧e.Kids.length=2)∨(e.Kind=5∧e.Kids.length=3)∨(e.Kind=6∧e.Kids.length=3)∨(e.Kind=7∧e.Kids.length=1∧1≤e.N∧e.N≤20):=by
 unfold eI fg at h
 simp only[qzf,decide_eq_true_eq] at h
 obtain⟨⟨⟨⟨h1,h2⟩,h3⟩,h4⟩,h5⟩:=h
 repeat' split at h1
 all_goals first|omega|skip
 rw[if_pos (by assumption),qzf,decide_eq_true_eq,decide_eq_true_eq] at h5
 omega
theorem sk {x:GEx} (h:lj x=true):exN x≤12∧cG x=true:=by
 unfold lj at h
 simp only[qzf,decide_eq_true_eq] at h
 exact⟨h.1.1,h.2⟩
def All (Q:GOcc→Prop) (l:List GOcc):Prop:=∀x∈l,Q x
def io (Q:GOcc→Prop):Prop:=∀a b,Q a→Q b→Q (dv a b)
theorem All.nil {Q:GOcc→Prop}:All Q []:=fun x hx=>by simp at hx
theorem All.filter {Q:GOcc→Prop} {l:List GOcc} (h:All Q l) (p:GOcc→Bool):All Q (l.filter p):=fun x hx=>h x (List.mem_filter.1 hx).1
theorem All.merge {Q:GOcc→Prop} {l m:List GOcc} (h:All Q l) (hm:All Q m):All Q (cM l m):=fun x hx=>by
 rcases lQ.1 hx with h1|h1
 ·exact h x h1
 ·exact hm x h1
theorem All.put {Q:GOcc→Prop} {l:List GOcc} {o:GOcc} (h:All Q l) (ho:Q o):All Q (cJ l o):=fun x hx=>by
 rcases gI.1 hx with h1|rfl
 ·exact h x h1
 ·exact ho
theorem All.rem {Q:GOcc→Prop} {l g:List GOcc} (h:All Q l):All Q (ow l g):=h.filter _
theorem All.sum {Q:GOcc→Prop} (hj:io Q):∀{l:List GOcc} {o:GOcc},All Q l→Q o→Q (pF o l)
 |[],o,_,ho=>ho
 |x::l,o,h,ho=>All.sum hj (l:=l) (o:=dv o x) (fun y hy=>h y (by simp[hy])) (hj _ _ ho (h x (by simp)))
theorem All.eachs {Q:GOcc→Prop} (hj:io Q) {o:GOcc} (ho:Q o):∀(l acc:List GOcc),All Q l→All Q acc→All Q (l.foldl (fun s e=>cJ s (dv o e)) acc)
 |[],acc,_,ha=>ha
 |x::l,acc,h,ha=>All.eachs hj ho l _ (fun y hy=>h y (by simp[hy])) (ha.put (hj _ _ ho (h x (by simp))))
theorem All.found {Q:GOcc→Prop} (hj:io Q) {mode:Int} {o:GOcc} {l:List GOcc} (h:All Q l) (ho:Q o):All Q (eZ mode o l):=by
 have one:∀x:GOcc,Q x→All Q [x]:=fun x hx y hy=>by rw[List.mem_singleton.1 hy];exact hx
 unfold eZ
 by_cases h0:l.length=0
 ·rw[if_pos h0];exact All.nil
 rw[if_neg h0]
 split
 ·exact one _ (hj _ _ ho (by rw[qzc (show l.length-1<l.length by omega)];exact h _ (qze _)))
 split
 ·exact one _ (hj _ _ ho (by rw[qzc (show 0<l.length by omega)];exact h _ (qze _)))
 split
 ·exact one _ (All.sum hj h ho)
 ·exact All.eachs hj ho l [] h All.nil
theorem All.one {Q:GOcc→Prop} (hj:io Q) {mode:Int} {p:GOcc→GOcc→Bool} {s:List GOcc×List GOcc} {o:GOcc} (h1:All Q s.1) (h2:All Q s.2) (ho:Q o):All Q (fy mode p s o).1∧All Q (fy mode p s o).2:=
 ⟨h1.rem,h2.merge ((h1.filter _).found hj ho)⟩
theorem All.ones {Q:GOcc→Prop} (hj:io Q) {mode:Int} {p:GOcc→GOcc→Bool}:∀(r:List GOcc) {s:List GOcc×List GOcc},All Q r→All Q s.1→All Q s.2→All Q (r.foldl (fy mode p) s).1∧All Q (r.foldl (fy mode p) s).2
 |[],s,_,h1,h2=>⟨h1,h2⟩
 |o::r,s,hr,h1,h2=>by
  obtain⟨a,b⟩:=All.one hj (mode:=mode) (p:=p) h1 h2 (hr o (by simp))
  exact All.ones hj r (s:=fy mode p s o) (fun y hy=>hr y (by simp[hy])) a b
theorem All.store {Q:GOcc→Prop} {mode:Int} {own:List GOcc} {o:GOcc} {alone:Bool} (h:All Q own) (ho:Q o):All Q (kH mode own o alone):=by
 unfold kH
 split
 ·exact fun y hy=>by rw[List.mem_singleton.1 hy];exact ho
 split
 ·exact h.put ho
 split
 ·exact h.put ho
 ·exact h
def qR (Q:GOcc→Prop) (s:List GOcc×List GOcc×List GOcc):Prop:=All Q s.1∧All Q s.2.1∧All Q s.2.2
theorem qR.half {Q:GOcc→Prop} (hj:io Q) {mode:Int} {s:List GOcc×List GOcc×List GOcc} {o:GOcc} (h:qR Q s) (ho:Q o):qR Q (fW mode s o):=⟨h.1.store ho,h.2.1.rem,h.2.2.merge (h.2.1.found hj ho)⟩
theorem qR.other {Q:GOcc→Prop} (hj:io Q) {mode:Int} {s:List GOcc×List GOcc×List GOcc} {o:GOcc} (h:qR Q s) (ho:Q o):qR Q (mM mode s o):=by
 have:=qR.half hj (mode:=mode) (s:=(s.2.1,s.1,s.2.2)) ⟨h.2.1,h.1,h.2.2⟩ ho
 exact⟨this.2.1,this.1,this.2.2⟩
theorem jW {α σ:Type} (P:σ→Prop) (g:σ→α→σ):∀(l:List α) (s:σ),(∀s,∀x∈l,P s→P (g s x))→P s→P (l.foldl g s)
 |[],s,_,h=>h
 |x::l,s,hs,h=>jW P g l (g s x) (fun s y hy=>hs s y (by simp[hy])) (hs s x (by simp) h)
/-- a step keeps Q -/
def Ho (Q:GOcc→Prop) (f:Two→List GOcc→List GOcc→Two×List GOcc):Prop:=∀(p:Two) (l r:List GOcc),All Q p.1→All Q p.2→All Q l→All Q r→All Q (f p l r).1.1∧All Q (f p l r).1.2∧All Q (f p l r).2
def EU (Q:GOcc→Prop) (f:Two→List GOcc→List GOcc→List GOcc→Two×List GOcc):Prop:=∀(p:Two) (a b c:List GOcc),All Q p.1→All Q p.2→All Q a→All Q b→All Q c→All Q (f p a b c).1.1∧All Q (f p a b c).1.2∧All Q (f p a b c).2
theorem Fh {Q:GOcc→Prop} (hj:io Q) (mode:Int):Ho Q (Ie mode):=fun p l r h1 h2 hl hr=>by
 obtain⟨a,b⟩:=All.ones hj (mode:=mode) (p:=before) r (s:=(p.1,[])) hr h1 All.nil
 exact⟨a.merge hl,h2,b⟩
theorem EV {Q:GOcc→Prop} (hj:io Q) (mode:Int):Ho Q (Ib mode):=fun p l r h1 h2 hl hr=>by
 have a:=jW (qR Q) (fW mode) l (p.1,p.2,[]) (fun s x hx h=>h.half hj (hl x hx)) ⟨h1,h2,All.nil⟩
 have b:=jW (qR Q) (mM mode) r _ (fun s x hx h=>h.other hj (hr x hx)) a
 exact⟨b.1,b.2.1,b.2.2⟩
theorem FF {Q:GOcc→Prop} (hj:io Q) (mode:Int):EU Q (I9 mode):=fun p a b c h1 h2 ha hb hc=>by
 obtain⟨x,y⟩:=All.ones hj (mode:=mode) (p:=ed p.2) c (s:=(p.1,[])) hc h1 All.nil
 exact⟨x.merge ha,h2.merge hb,y⟩
theorem DQ {Q:GOcc→Prop} (hj:io Q) (mode:Int):EU Q (Hj mode):=fun p a b c h1 h2 ha hb hc=>
 ⟨h1.merge ha,h2.merge hc,jW (All Q) _ b [] (fun s x hx h=>h.merge ((h1.filter _).found hj (hb x hx))) All.nil⟩
theorem AU:∀{l:List Int} {p:Int},Up l→(∀x∈l,p<x∧x≤23)→fj p l=true
 |[],_,_,_=>rfl
 |x::l,p,hu,h=>by
  have hu':=List.pairwise_cons.1 hu
  have:=h x (by simp)
  simp only[fj,qzf,decide_eq_true_eq]
  exact⟨this,AU hu'.2 fun y hy=>⟨hu'.1 y hy,(h y (by simp[hy])).2⟩⟩
theorem eW (o:GOcc):dx o=true↔1≤o.From∧o.From≤o.To∧o.To≤2000∧1≤o.Ids.length∧cL o.Ids:=by
 unfold dx
 simp only[qzf,decide_eq_true_eq]
 constructor
 ·rintro⟨⟨⟨⟨a,b⟩,c⟩,d⟩,e⟩
  exact⟨a,b,c,d,AM e⟩
 ·rintro⟨a,b,c,d,e⟩
  exact⟨⟨⟨⟨a,b⟩,c⟩,d⟩,AU e.1 fun x hx=>by have:=e.2 x hx;omega⟩
theorem EE {l:List GOcc} (h1:All (fun o=>dx o=true) l) (h2:Asc l) (h3:l.length≤40):dA l=true:=by
 unfold dA
 simp only[qzf,qzN,List.mem_range',decide_eq_true_eq]
 refine⟨?_,h3⟩
 rintro i ⟨j,hj,rfl⟩
 rw[show 0+1 * j=j by omega]
 unfold iy
 rw[qzc hj]
 simp only[qzf]
 refine⟨h1 _ (qze hj),?_⟩
 cases j with
 |zero=>rfl
 |succ j=>
  simp only[iC,qzc (show j<l.length by omega)]
  exact List.pairwise_iff_getElem.1 h2 _ _ _ _ qom
theorem BJ (k:Nat) (hk:1000000000000≤k) (l:List GEv) (hl:l.length≤1000000):d8.f k l=some (fH l):=by
 unfold d8.f fH
 by_cases h:24<(l.length:Int)
 ·rw[if_pos h];have:¬l.length≤24:=by omega
  simp[this]
 ·rw[if_neg h]
  have:=wB k l qom l.length k 0 qom qom
  rw[show((0:Nat):Int)=0 from rfl] at this
  rw[this]
  have h':l.length≤24:=by omega
  cases(List.range' 0 l.length).all (jr l) <;> simp[h']
theorem IY (a b:Int) (ha:0≤a∧a<4611686018427387904) (hb:0≤b∧b<4611686018427387904):0≤dG .xor .i64 a b∧dG .xor .i64 a b<4611686018427387904:=by
 obtain⟨m,rfl⟩:∃m:Nat,a=m:=⟨a.toNat,by omega⟩
 obtain⟨n,rfl⟩:∃n:Nat,b=n:=⟨b.toNat,by omega⟩
 have h:(BitVec.ofInt 64 (m:Int) ^^^ BitVec.ofInt 64 (n:Int)).toNat=m ^^^ n:=by
  rw[BitVec.toNat_xor,BitVec.ofInt_natCast,BitVec.ofInt_natCast,BitVec.toNat_ofNat,BitVec.toNat_ofNat,Nat.mod_eq_of_lt qom,Nat.mod_eq_of_lt qom]
 have h2:m ^^^ n<2 ^ 62:=Nat.xor_lt_two_pow qom qom
 show 0≤IntKind.wrap .i64 ((BitVec.ofInt 64 (m:Int) ^^^ BitVec.ofInt 64 (n:Int)).toNat:Int)∧_
 have e:dG .xor .i64 (m:Int) (n:Int)=IntKind.wrap .i64 ((BitVec.ofInt 64 (m:Int) ^^^ BitVec.ofInt 64 (n:Int)).toNat:Int):=rfl
 rw[e,h,wr _ qom]
 omega
theorem tc (a b:Int) (ha:0≤a∧a<4611686018427387904) (hb:1≤b∧b<4611686018427387904):dG .rem .i64 a b=a % b:=by
 show a.tmod b=a % b
 exact Int.tmod_eq_emod_of_nonneg ha.1
theorem vQ (a b:Int) (ha:0≤a∧a<4611686018427387904) (hb:1≤b∧b<4611686018427387904):dG .quo .i64 a b=a / b∧0≤a / b∧a / b≤a:=by
 have e:dG .quo .i64 a b=IntKind.wrap .i64 (a.tdiv b):=rfl
 have h1:=Int.ediv_nonneg ha.1 (show 0≤b by omega)
 have h2:=Int.ediv_le_self b ha.1
 rw[e,Int.tdiv_eq_ediv_of_nonneg ha.1,wr _ qom]
 exact⟨rfl,h1,h2⟩
/-- a reader over bytes that has read no more than m -/
def dz (r:Gl14Rd) (m:Int):Prop:=(∀x∈r.b,0≤x∧x≤255)∧r.b.length≤1048576∧0≤r.p∧r.p≤m
theorem dz.mono {r:Gl14Rd} {m n:Int} (h:dz r m) (hm:m≤n):dz r n:=⟨h.1,h.2.1,h.2.2.1,by have:=h.2.2.2;omega⟩
theorem fu (r:Gl14Rd) (n:Int) (m:Int) (h:dz r m) (hm:m≤1000000000) (hn:n<4611686018427387904):∃v r',aT.f r n=some (v,r')∧0≤v∧(1≤n→v<n)∧(n<1→v=0)∧dz r' (m+1):=by
 obtain⟨hb,hl,h0,h1⟩:=h
 have hw:IntKind.wrap .i64 (r.p+1)=r.p+1:=wr _ qom
 have hr':dz ⟨r.b,r.p+1⟩ (m+1):=⟨hb,hl,by dsimp only;omega,by dsimp only;omega⟩
 unfold aT.f
 simp only[hw]
 by_cases hn1:n<1
 ·rw[if_pos hn1];exact⟨0,_,rfl,by omega,by omega,fun _=>rfl,hr'⟩
 rw[if_neg hn1]
 by_cases hb0:(r.b.length:Int)=0
 ·rw[if_pos hb0];exact⟨0,_,rfl,by omega,by omega,fun _=>rfl,hr'⟩
 rw[if_neg hb0]
 have hq:IntKind.wrap .i64 (r.p+1-1)=r.p:=by rw[wr _ qom];omega
 simp only[hq]
 by_cases hp:r.p<(r.b.length:Int)
 ·have hlt:r.p.toNat<r.b.length:=by omega
  have he:=hb r.b[r.p.toNat] (qze hlt)
  rw[if_pos hp,ac h0,qzc hlt]
  simp only[qzb]
  rw[ac qom,wr _ qom,tc _ _ qom qom]
  have g1:=Int.emod_nonneg r.b[r.p.toNat] (show n≠0 by omega)
  have g2:=Int.emod_lt_of_pos r.b[r.p.toNat] (show 0<n by omega)
  exact⟨_,_,rfl,g1,fun _=>g2,fun h=>absurd h hn1,hr'⟩
 ·rw[if_neg hp,ac hb0]
  rw[wr (r.p * 7) qom,wr (r.p * 7+3) qom,wr (r.p * 29) qom,tc r.p _ qom qom,tc (r.p * 7+3) _ qom qom,(vQ r.p _ qom qom).1]
  have q1:=Int.emod_nonneg r.p hb0
  have q2:=Int.emod_lt_of_pos r.p (show 0<(r.b.length:Int) by omega)
  have q3:=Int.emod_nonneg (r.p * 7+3) hb0
  have q4:=Int.emod_lt_of_pos (r.p * 7+3) (show 0<(r.b.length:Int) by omega)
  have q5:=(vQ r.p (r.b.length:Int) qom qom).2
  generalize r.p % (r.b.length:Int)=i at *
  generalize (r.p * 7+3) % (r.b.length:Int)=j at *
  generalize r.p / (r.b.length:Int)=d at *
  have hi:i.toNat<r.b.length:=by omega
  have hj:j.toNat<r.b.length:=by omega
  have e1:=hb r.b[i.toNat] (qze hi)
  have e2:=hb r.b[j.toNat] (qze hj)
  rw[ac q1,qzc hi]
  simp only[qzb]
  rw[ac hb0,ac q3,qzc hj]
  simp only[qzb]
  generalize r.b[i.toNat]=x at *
  generalize r.b[j.toNat]=y at *
  rw[ac hb0,ac qom]
  simp only[wr x qom,wr y qom,wr (x * 131) qom,wr (y * 1117) qom,wr (d * 53) qom,wr (x * 131+y * 1117) qom,wr (x * 131+y * 1117+r.p * 29) qom,wr (x * 131+y * 1117+r.p * 29+d * 53) qom]
  have u:=vQ (x * 131+y * 1117+r.p * 29+d * 53) 64 qom qom
  have v:=IY (x * 131+y * 1117+r.p * 29+d * 53) (dG .quo .i64 (x * 131+y * 1117+r.p * 29+d * 53) 64) qom (by rw[u.1];omega)
  rw[tc _ n v qom]
  exact⟨_,_,rfl,Int.emod_nonneg _ qom,fun _=>Int.emod_lt_of_pos _ qom,fun h=>absurd h hn1,hr'⟩
theorem fO (r:Gl14Rd) (l:List Int) (m:Int) (h:dz r m) (hm:m≤1000000000) (hl:1≤l.length∧l.length<1000):∃v r',aE.f r l=some (v,r')∧v∈l∧dz r' (m+1):=by
 obtain⟨v,r',h1,h2,h3,h4,h5⟩:=fu r l.length m h hm qom
 have hv:=h3 qom
 unfold aE.f
 rw[h1]
 simp only[qzb]
 rw[ac h2,qzc (show v.toNat<l.length by omega)]
 exact⟨_,_,rfl,qze _,h5⟩
theorem Ed (l:List Int) (hl:l.length≤1048576) (hb:∀y∈l,0≤y∧y≤255):∃r,jR.f l=some r∧dz r 0:=by
 unfold jR.f
 by_cases h:2000<(l.length:Int)
 ·rw[if_pos h,ac qom,ac qom,ac qom]
  exact⟨_,rfl,fun x hx=>hb x (tn hx),by simp;omega,by dsimp only;omega,by dsimp only;omega⟩
 ·rw[if_neg h]
  exact⟨_,rfl,hb,hl,by dsimp only;omega,by dsimp only;omega⟩
theorem kQ:∀l m:List GEx,em (l++m)=em l+em m
 |[],m=>by simp[fC]
 |x::l,m=>by rw[qzH,dB,dB,kQ l m];omega
theorem qI (x:GEx):em [x]=exN x:=by rw[dB,fC];omega
theorem vB (a b c:Int):exN ⟨a,b,c,[]⟩=1:=by rw[dI,fC]
theorem DO (k:Nat) (rec':Gl14Rd→Int→Option (GEx×Gl14Rd)) (p1:Int) (B N:Nat) (M:Int)
  (H:∀(r:Gl14Rd) (m:Int),dz r m→m≤M→∃x r',rec' r (IntKind.wrap .i64 (p1-1))=some (x,r')∧dz r' (m+B)∧exN x≤N) :
  ∀(c n:Nat) (b:List Int) (p m:Int) (acc:List GEx),c<n→c≤3→dz ⟨b,p⟩ m→m+c * B≤M+B→em acc+c * N≤1000000→
   ∃acc' b' p',aH.l0 k rec' p1 n b p acc (c:Int)=some (acc',b',p')∧dz ⟨b',p'⟩ (m+c * B)∧em acc'≤em acc+c * N:=by
 intro c
 induction c with
 |zero=>
  intro n b p m acc hn hc hr hm ha
  obtain⟨n,rfl⟩:=qsc n
  rw[aH.l0,if_neg qom]
  exact⟨_,_,_,rfl,by simpa using hr,by simp⟩
 |succ c ih=>
  intro n b p m acc hn hc hr hm ha
  obtain⟨n,rfl⟩:=qsc n
  have hcB:((c+1:Nat):Int) * B=c * B+B:=by rw[Int.natCast_succ,Int.add_mul];omega
  have hcN:(c+1) * N=c * N+N:=pN c N
  have hcB0:(0:Int)≤c * B:=Int.mul_nonneg qom qom
  obtain⟨x,r',e1,e2,e3⟩:=H ⟨b,p⟩ m hr qom
  have hla:=ig acc
  rw[aH.l0,if_pos qom,e1]
  simp only[qzb]
  rw[ac qom,wrP c qom]
  obtain⟨acc',b',p',q1,q2,q3⟩:=ih n r'.b r'.p (m+B) (acc++[x]) qom qom e2 qom (by rw[kQ,qI];omega)
  refine⟨acc',b',p',q1,q2.mono qom,?_⟩
  rw[kQ,qI] at q3
  omega
theorem Es (k:Nat) (rec':Gl14Rd→Int→Option (GEx×Gl14Rd)) (p1:Int) (B N:Nat) (M:Int)
  (H:∀(r:Gl14Rd) (m:Int),dz r m→m≤M→∃x r',rec' r (IntKind.wrap .i64 (p1-1))=some (x,r')∧dz r' (m+B)∧exN x≤N) :
  ∀(c n:Nat) (b:List Int) (p m:Int) (acc:List GEx),c<n→c≤3→dz ⟨b,p⟩ m→m+c * B≤M+B→em acc+c * N≤1000000→
   ∃acc' b' p',aH.l1 k rec' p1 n b p acc (c:Int)=some (acc',b',p')∧dz ⟨b',p'⟩ (m+c * B)∧em acc'≤em acc+c * N:=by
 intro c
 induction c with
 |zero=>
  intro n b p m acc hn hc hr hm ha
  obtain⟨n,rfl⟩:=qsc n
  rw[aH.l1,if_neg qom]
  exact⟨_,_,_,rfl,by simpa using hr,by simp⟩
 |succ c ih=>
  intro n b p m acc hn hc hr hm ha
  obtain⟨n,rfl⟩:=qsc n
  have hcB:((c+1:Nat):Int) * B=c * B+B:=by rw[Int.natCast_succ,Int.add_mul];omega
  have hcN:(c+1) * N=c * N+N:=pN c N
  have hcB0:(0:Int)≤c * B:=Int.mul_nonneg qom qom
  obtain⟨x,r',e1,e2,e3⟩:=H ⟨b,p⟩ m hr qom
  have hla:=ig acc
  rw[aH.l1,if_pos qom,e1]
  simp only[qzb]
  rw[ac qom,wrP c qom]
  obtain⟨acc',b',p',q1,q2,q3⟩:=ih n r'.b r'.p (m+B) (acc++[x]) qom qom e2 qom (by rw[kQ,qI];omega)
  refine⟨acc',b',p',q1,q2.mono qom,?_⟩
  rw[kQ,qI] at q3
  omega
theorem Gp {v:Int} (h:v∈([2,3,3,4,4,4,5,6,7]:List Int)):∃c:Nat,fg v=(c:Int)∧c≤3:=by
 simp only[qzo,sP,or_false] at h
 rcases h with rfl|rfl|rfl|rfl|rfl|rfl|rfl|rfl|rfl
 all_goals first|exact⟨2,rfl,by omega⟩|exact⟨3,rfl,by omega⟩|exact⟨1,rfl,by omega⟩
theorem xd:∀(d:Nat),d≤4→∀(k:Nat),1000000000000+d≤k→∀(r:Gl14Rd) (m:Int),dz r m→m≤100000000-10 ^ (d+1)→∃x r',aH.f k r (d:Int)=some (x,r')∧dz r' (m+(10 ^ (d+1):Nat))∧exN x≤4 ^ d:=by
 intro d
 induction d with
 |zero=>
  intro hd k hk r m hr hm
  obtain⟨k,rfl⟩:=qsc k
  obtain⟨v,r',h1,h2,h3⟩:=fO r [0,0,1,1,2,2,3,4] m hr qom (by simp)
  rw[aH.f,if_neg qom,h1]
  exact⟨_,_,rfl,h3.mono qom,by rw[vB];simp⟩
 |succ d ih=>
  intro hd k hk r m hr hm
  obtain⟨k,rfl⟩:=qsc k
  have p10:(10:Nat) ^ (d+1+1)=10 ^ (d+1) * 10:=Nat.pow_succ ..
  have p10i:(10:Int) ^ (d+1+1)=10 ^ (d+1) * 10:=Int.pow_succ ..
  have c10:((10 ^ (d+1):Nat):Int)=(10:Int) ^ (d+1):=by push_cast;rfl
  have b10:10≤(10:Nat) ^ (d+1):=by rw[Nat.pow_succ];have:=Nat.one_le_pow d 10 qom;omega
  have p4:(4:Nat) ^ (d+1)=4 ^ d * 4:=Nat.pow_succ ..
  have b4:1≤(4:Nat) ^ d:=Nat.one_le_pow d 4 qom
  have t4:(4:Nat) ^ d≤4 ^ 3:=uK qom qom
  have t10:(10:Nat) ^ (d+1)≤10 ^ 4:=uK qom qom
  rw[aH.f]
  by_cases h1:1<((d+1:Nat):Int)
  rotate_left
  ·rw[if_neg h1]
   obtain⟨v,r',e1,e2,e3⟩:=fO r [0,0,1,1,2,2,3,4] m hr qom (by simp)
   rw[e1]
   exact⟨_,_,rfl,e3.mono qom,by rw[vB];omega⟩
  rw[if_pos h1]
  obtain⟨v,r1,e1,e2,e3,e4,e5⟩:=fu r 4 m hr qom qom
  rw[e1]
  simp only[qzb]
  by_cases h2:v=0
  ·rw[if_pos h2]
   obtain⟨v,r',g1,g2,g3⟩:=fO r1 [0,0,1,1,2,2,3,4] (m+1) e5 qom (by simp)
   rw[g1]
   exact⟨_,_,rfl,g3.mono qom,by rw[vB];omega⟩
  rw[if_neg h2]
  obtain⟨kd,r2,g1,g2,g3⟩:=fO r1 [2,3,3,4,4,4,5,6,7] (m+1) e5 qom (by simp)
  rw[g1]
  simp only[qzb]
  obtain⟨c,hc,hc3⟩:=Gp g2
  have H:∀(r:Gl14Rd) (m:Int),dz r m→m≤100000000-10 ^ (d+1)→∃x r',aH.f k r (IntKind.wrap .i64 (((d+1:Nat):Int)-1))=some (x,r')∧dz r' (m+(10 ^ (d+1):Nat))∧exN x≤4 ^ d:=fun r m hr hm=>by
   rw[wrP d qom]
   exact ih qom k qom r m hr hm
  have fin:∀(acc:List GEx),em acc≤em []+c * 4 ^ d→1+em acc≤4 ^ (d+1):=fun acc h=>by
   have:c * 4 ^ d≤3 * 4 ^ d:=qzp _ hc3
   rw[fC] at h
   omega
  have cB:(c:Int) * (10 ^ (d+1):Nat)≤3 * (10 ^ (d+1):Nat):=Int.mul_le_mul_of_nonneg_right qom qom
  have cN:c * 4 ^ d≤3 * 4 ^ d:=qzp _ hc3
  by_cases h3:kd=7
  ·rw[if_pos h3]
   obtain⟨n,r3,f1,f2,f3⟩:=fO r2 [1,2,3,5,20] (m+1+1) g3 qom (by simp)
   rw[f1,lF,hc]
   simp only[qzb]
   obtain⟨acc,b',p',q1,q2,q3⟩:=DO k (aH.f k) ((d+1:Nat):Int) (10 ^ (d+1)) (4 ^ d) (100000000-10 ^ (d+1)) H c k r3.b r3.p (m+1+1+1) [] qom hc3 f3 qom (by rw[fC];omega)
   rw[q1]
   exact⟨_,_,rfl,q2.mono qom,by rw[dI];exact fin acc q3⟩
  ·rw[if_neg h3]
   rw[lF,hc]
   simp only[qzb]
   obtain⟨acc,b',p',q1,q2,q3⟩:=Es k (aH.f k) ((d+1:Nat):Int) (10 ^ (d+1)) (4 ^ d) (100000000-10 ^ (d+1)) H c k r2.b r2.p (m+1+1) [] qom hc3 g3 qom (by rw[fC];omega)
   rw[q1]
   exact⟨_,_,rfl,q2.mono qom,by rw[dI];exact fin acc q3⟩
theorem GJ (k:Nat) (hk:2000000000000≤k) (r:Gl14Rd) (m:Int) (hr:dz r m) (hm:m≤90000000):∃x r',ia.f k r=some (x,r')∧dz r' (m+200000)∧exN x≤256:=by
 unfold ia.f
 obtain⟨v,r1,e1,e2,e3,e4,e5⟩:=fu r 4 m hr qom qom
 have hv:=e3 qom
 rw[e1]
 simp only[qzb]
 rw[wr (1+v) qom]
 obtain⟨d,hd⟩:∃d:Nat,1+v=(d:Int):=⟨(1+v).toNat,by omega⟩
 have t4:(4:Nat) ^ d≤4 ^ 4:=uK qom qom
 have t10:(10:Nat) ^ (d+1)≤10 ^ 5:=uK qom qom
 have t10i:((10 ^ (d+1):Nat):Int)=(10:Int) ^ (d+1):=by push_cast;rfl
 obtain⟨x,r2,g1,g2,g3⟩:=xd d qom k qom r1 (m+1) e5 qom
 rw[hd,g1]
 simp only[qzb]
 rw[mB x qom k qom]
 simp only[qzb]
 split
 ·exact⟨_,_,rfl,g2.mono qom,by omega⟩
 ·obtain⟨y,r3,f1,f2,f3⟩:=xd 2 qom k qom r2 (m+1+(10 ^ (d+1):Nat)) g2 qom
  rw[show(2:Int)=((2:Nat):Int) from rfl,f1]
  exact⟨_,_,rfl,f2.mono qom,by show exN y≤256;omega⟩
theorem CB (k:Nat) (rec':GEx→Option GEx) (e:GEx) (hl:e.Kids.length≤1000000) (H:∀y∈e.Kids,rec' y=some y):∀(d i n:Nat) (acc:List GEx),i+d=e.Kids.length→d<n→acc=e.Kids.take i→cy.l0 k rec' e n acc (i:Int)=some e.Kids:=by
 intro d
 induction d with
 |zero=>
  intro i n acc hi hn ha
  obtain⟨n,rfl⟩:=qsc n
  rw[cy.l0,if_neg qom,ha,qzD qom]
 |succ d ih=>
  intro i n acc hi hn ha
  obtain⟨n,rfl⟩:=qsc n
  have h:i<e.Kids.length:=by omega
  rw[cy.l0,if_pos qom,ac qom,qzd,qzc h]
  simp only[qzb,H _ (qze h)]
  have hal:acc.length≤e.Kids.length:=by rw[ha,qzZ];omega
  rw[ac qom,wrS i qom]
  refine ih (i+1) n _ qom qom ?_
  rw[ha,xJ,qzc h];rfl
theorem GZ:∀e:GEx,exN e≤1000000→∀k:Nat,1000000000000+exN e≤k→cy.f k e=some e:=by
 refine jE fun e ih hn k hk=>?_
 rw[dI] at hn hk
 obtain⟨k,rfl⟩:=qsc k
 have hq:=ig e.Kids
 have:=CB k (cy.f k) e qom (fun y hy=>by have:=eR hy;exact ih y hy qom k qom) e.Kids.length 0 k [] qom qom (by simp)
 rw[show((0:Nat):Int)=0 from rfl] at this
 rw[cy.f,this];cases e;rfl
def gD (c:tW):Bool:=decide (0≤c.Sym)&&decide (c.Sym<5)&&decide (1≤c.Gap)&&decide (c.Gap≤20)&&decide (0≤c.Val)&&decide (c.Val≤100)
theorem pX (c:tW):kD.f c=some (gD c):=by
 unfold kD.f eM.f gD
 simp only[fi,qzb]
 repeat' split
 all_goals (rw[qzh,qzP];simp_all;try omega)
/- what is drawn -/
/- the engine without rules -/
def G8:List Int:=List.replicate 4 0
def aL (l:List GEv):Int:=match l.getLast? with
 |some e=>e.At
 |none=>0
theorem tN (l:List GEv) (hl:l.length≤1000):jj.f l=some (aL l):=by
 unfold jj.f aL
 rcases List.eq_nil_or_concat l with rfl|⟨m,e,rfl⟩
 ·rfl
 ·rw[List.concat_eq_append] at hl⊢
  rw[qzg,qzq] at hl⊢
  rw[if_neg qom]
  rw[wrP m.length qom,ac qom,qzd]
  simp
theorem Hl (k:Nat) (l:List GEv) (hl:l.length≤1000) (hk:2000≤k):dW.f k l=some (fH l):=by
 unfold dW.f fH
 have:=wj k l qom l.length k 0 qom qom
 rw[show((0:Nat):Int)=0 from rfl] at this
 rw[this]
 cases(List.range' 0 l.length).all (jr l)
 ·simp
 ·simp only[if_true,qzb,qzk,qzh]
  by_cases h:l.length≤24
  ·have:¬(24:Int)<l.length:=by omega
   simp[h,this]
  ·have:(24:Int)<l.length:=by omega
   simp[h,this]
/- one more event -/
theorem uF (l:List GEv) (e:GEv) (a:Int):∀i,i≤l.length→j5 (l++[e]) a i=j5 l a i
 |0,_=>rfl
 |j+1,h=>by
  show(match(l++[e])[j]? with|some d=>decide (d.At<a)|none=>false)=(match l[j]? with|some d=>decide (d.At<a)|none=>false)
  rw[qzF qom]
theorem rv {l:List GEv} {e:GEv} (h:fH l=true) (hl:l.length<24) (he:jY e=true) (ha:aL l<e.At):fH (l++[e])=true:=by
 unfold fH at h⊢
 simp only[qzf,qzN,List.mem_range',decide_eq_true_eq,qzg,qzq] at h⊢
 refine⟨?_,by omega⟩
 rintro x ⟨i,hi,rfl⟩
 simp only[qP,Nat.one_mul]
 unfold jr
 by_cases hlt:i<l.length
 ·have:=h.1 i ⟨i,hlt,by omega⟩
  unfold jr at this
  rw[qzF hlt]
  rw[qzc hlt] at this⊢
  simp only[qzf] at this⊢
  exact⟨this.1,by rw[uF l e _ i qom];exact this.2⟩
 ·have e1:i=l.length:=by omega
  subst e1
  rw[qzu qom,qzV]
  simp only[qzs,qzf]
  refine⟨he,?_⟩
  rw[uF l e _ _ (qzi _)]
  unfold aL at ha
  cases hn:l.length with
  |zero=>rfl
  |succ j=>
   show(match l[j]? with|some d=>decide (d.At<e.At)|none=>false)=true
   rw[qzS,hn,Nat.add_sub_cancel,qzc qom] at ha
   rw[qzc qom]
   simpa using ha
theorem Cu (l:List GEv) (e:GEv):aL (l++[e])=e.At:=by unfold aL;simp
def xX (a b i:Nat) (s:List GOcc×List GOcc×List GOcc):Prop:=Ok (a+i) s.1∧Ok b s.2.1∧Ok (i * b) s.2.2
theorem xX.half {a b i:Nat} {mode:Int} {s:List GOcc×List GOcc×List GOcc} {o:GOcc} (h:xX a b i s) (ho:cL o.Ids):xX a b (i+1) (fW mode s o):=by
 obtain⟨x,y,z⟩:=BL (mode:=mode) h.1 h.2.1 h.2.2 ho
 refine⟨x,y,z.mono ?_⟩
 rw[pN];exact qzi _
def vn (a b e i:Nat) (s:List GOcc×List GOcc×List GOcc):Prop:=Ok a s.1∧Ok (b+i) s.2.1∧Ok (e+i * a) s.2.2
theorem vn.other {a b e i:Nat} {mode:Int} {s:List GOcc×List GOcc×List GOcc} {o:GOcc} (h:vn a b e i s) (ho:cL o.Ids):vn a b e (i+1) (mM mode s o):=by
 obtain⟨x,y,z⟩:=BL (mode:=mode) (s:=(s.2.1,s.1,s.2.2)) h.2.1 h.1 h.2.2 ho
 refine⟨y,x,z.mono ?_⟩
 rw[pN];omega
theorem De {mode:Int} {l r left right:List GOcc} {a b c d:Nat} (h1:Ok a l) (h2:Ok b r) (hl:Ids left) (hr:Ids right) (hc:left.length≤c) (hd:right.length≤d) :
  vn (a+c) b (c * b) d (gi mode l r left right):=by
 have a1:=vE (fW mode) (xX a b) left 0 (l,r,[]) (fun j s h hI=>by rw[qP] at *;exact hI.half (hl _ (qze h))) ⟨h1,h2,by simpa using Ok.nil 0⟩
 rw[qP] at a1
 have a2:=vE (mM mode) (vn (a+c) b (c * b)) right 0 (left.foldl (fW mode) (l,r,[])) (fun j s h hI=>by rw[qP] at *;exact hI.other (hr _ (qze h)))
  ⟨a1.1.mono qom,a1.2.1,a1.2.2.mono (by have:=qzp b hc;omega)⟩
 rw[qP] at a2
 exact⟨a2.1,a2.2.1.mono qom,a2.2.2.mono (by have:=qzp (a+c) hd;omega)⟩
theorem CY (k:Nat) (hk:1000000000000≤k) (mode:Int) (p:GPair) (left right:List GOcc) (a b c d:Nat) (h1:Ok a p.Left) (h2:Ok b p.Right) (hl:Ids left) (hr:Ids right) (hc:left.length≤c) (hd:right.length≤d) (hB:c * b+d * (a+c)+a+b+c+d≤40000000000) :
  bu.f k p mode left right=some (⟨(gi mode p.Left p.Right left right).1,(gi mode p.Left p.Right left right).2.1⟩,(gi mode p.Left p.Right left right).2.2):=by
 have a1:=fd (fun s:List GOcc×List GOcc×List GOcc=>s) left (fun s e=>((aJ.f k mode e s.2.1).bind fun x48=>((bc.f k s.2.2 x48.1).bind fun x51=>((bz.f k s.2.1 x48.2).bind fun x54=>((gf.f k mode s.1 e ((x48.1.length:Int)==0)).bind fun x57=>some (x57,x54,x51)))))) (fun n s i=>bu.l0 k mode left n s.1 s.2.1 s.2.2 i) (fW mode) (xX a b)
  (fun n s=>by rw[bu.l0,if_neg qom])
  (fun n s i h=>by
   rw[bu.l0,if_pos qom,ac qom,qzd,qzc h]
   simp only[qzb,qzQ]
   rw[wrS i qom])
  (fun i s h hI=>⟨yI k hk mode s.1 s.2.1 s.2.2 _ (a+i) b _ qom qom (by have:=qzp b (show i≤c by omega);omega) hI.1 hI.2.1 hI.2.2 (hl _ (qze h)),hI.half (hl _ (qze h))⟩)
  k (p.Left,p.Right,[]) qom ⟨h1,h2,by simpa using Ok.nil 0⟩
 have a2:=fd (fun s:List GOcc×List GOcc×List GOcc=>s) right (fun s e=>((aJ.f k mode e s.1).bind fun x48=>((bc.f k s.2.2 x48.1).bind fun x51=>((bz.f k s.1 x48.2).bind fun x54=>((gf.f k mode s.2.1 e ((x48.1.length:Int)==0)).bind fun x57=>some (x54,x57,x51)))))) (fun n s i=>bu.l1 k mode right n s.1 s.2.1 s.2.2 i) (mM mode) (vn (a+c) b (c * b))
  (fun n s=>by rw[bu.l1,if_neg qom])
  (fun n s i h=>by
   rw[bu.l1,if_pos qom,ac qom,qzd,qzc h]
   simp only[qzb,qzQ]
   rw[wrS i qom])
  (fun i s h hI=>by
   have q:=yI k hk mode s.2.1 s.1 s.2.2 _ (b+i) (a+c) _ qom qom (by have:=qzp (a+c) (show i≤d by omega);omega) hI.2.1 hI.1 hI.2.2 (hr _ (qze h))
   refine⟨?_,hI.other (hr _ (qze h))⟩
   have q2:=congrArg (Option.map fun t:List GOcc×List GOcc×List GOcc=>(t.2.1,t.1,t.2.2)) q
   simp only[Option.map_bind,qzL,Function.comp_def] at q2
   exact q2)
  k (left.foldl (fW mode) (p.Left,p.Right,[])) qom ⟨a1.2.1.mono qom,a1.2.2.1,a1.2.2.2.mono (by have:=qzp b hc;omega)⟩
 unfold bu.f
 rw[a1.1]
 simp only[qzb]
 rw[a2.1]
 rfl
theorem Bc (k:Nat) (hk:1000000000000≤k) (mode:Int) (hmo:0≤mode∧mode≤4) (p:GPair) (left right:List GOcc) (a b c d:Nat) (h1:Ok a p.Left) (h2:Ok b p.Right) (hl:Ids left) (hr:Ids right) (hc:left.length≤c) (hd:right.length≤d) (hB:c * b+d * (a+c)+a+b+c+d≤40000000000) :
  cm.f k mode p left right=some (⟨(gi mode p.Left p.Right left right).1,(gi mode p.Left p.Right left right).2.1⟩,(gi mode p.Left p.Right left right).2.2):=by
 have a1:=fd (fun s:List GOcc×List GOcc×List GOcc=>s) left (fun s e=>((gT.f k mode s.2.1 s.1 e).bind fun x36=>((aS.f k s.2.2 x36.2.2).bind fun x39=>some (x36.2.1,x36.1,x39)))) (fun n s i=>cm.l0 k mode left n s.1 s.2.1 s.2.2 i) (fW mode) (xX a b)
  (fun n s=>by rw[cm.l0,if_neg qom])
  (fun n s i h=>by
   rw[cm.l0,if_pos qom,ac qom,qzd,qzc h]
   simp only[qzb,qzQ]
   rw[wrS i qom])
  (fun i s h hI=>⟨zj k hk mode hmo s.1 s.2.1 s.2.2 _ (a+i) b _ qom qom (by have:=qzp b (show i≤c by omega);omega) hI.1 hI.2.1 hI.2.2 (hl _ (qze h)),hI.half (hl _ (qze h))⟩)
  k (p.Left,p.Right,[]) qom ⟨h1,h2,by simpa using Ok.nil 0⟩
 have a2:=fd (fun s:List GOcc×List GOcc×List GOcc=>s) right (fun s e=>((gT.f k mode s.1 s.2.1 e).bind fun x36=>((aS.f k s.2.2 x36.2.2).bind fun x39=>some (x36.1,x36.2.1,x39)))) (fun n s i=>cm.l1 k mode right n s.1 s.2.1 s.2.2 i) (mM mode) (vn (a+c) b (c * b))
  (fun n s=>by rw[cm.l1,if_neg qom])
  (fun n s i h=>by
   rw[cm.l1,if_pos qom,ac qom,qzd,qzc h]
   simp only[qzb,qzQ]
   rw[wrS i qom])
  (fun i s h hI=>by
   have q:=zj k hk mode hmo s.2.1 s.1 s.2.2 _ (b+i) (a+c) _ qom qom (by have:=qzp (a+c) (show i≤d by omega);omega) hI.2.1 hI.1 hI.2.2 (hr _ (qze h))
   refine⟨?_,hI.other (hr _ (qze h))⟩
   have q2:=congrArg (Option.map fun t:List GOcc×List GOcc×List GOcc=>(t.2.1,t.1,t.2.2)) q
   simp only[Option.map_bind,qzL,Function.comp_def] at q2
   exact q2)
  k (left.foldl (fW mode) (p.Left,p.Right,[])) qom ⟨a1.2.1.mono qom,a1.2.2.1,a1.2.2.2.mono (by have:=qzp b hc;omega)⟩
 unfold cm.f
 rw[a1.1]
 simp only[qzb]
 rw[a2.1]
 rfl
def pj (m n:GNode):Bool:=m.Kind==n.Kind&&(m.Sym==n.Sym&&(m.N==n.N&&m.Kids==n.Kids))
def kL (k s n:Int) (ks:List Int):GNode:=⟨k,s,n,ks,⟨[],[]⟩,⟨[],[]⟩,[],0⟩
def rQ (ns:List GNode) (x:GNode):Int×List GNode:=match ns.findIdx? (fun m=>pj m x) with
 |some i=>((i:Int),ns)
 |none=>((ns.length:Int),ns++[x])
mutual
/-- the parts with those of an expression, and the number of its own -/
def fY:GEx→List GNode→Int×List GNode
 |⟨k,s,n,ks⟩,ns=>rQ (dL ks ns).2 (kL k s n (dL ks ns).1)
def dL:List GEx→List GNode→List Int×List GNode
 |[],ns=>([],ns)
 |x::xs,ns=>((fY x ns).1::(dL xs (fY x ns).2).1,(dL xs (fY x ns).2).2)
end
theorem xk (x:GEx) (ns:List GNode):fY x ns=rQ (dL x.Kids ns).2 (kL x.Kind x.Sym x.N (dL x.Kids ns).1):=by cases x;simp only[fY]
theorem ta (ns:List GNode):dL [] ns=([],ns):=by simp only[dL]
theorem qW (x:GEx) (xs:List GEx) (ns:List GNode):dL (x::xs) ns=((fY x ns).1::(dL xs (fY x ns).2).1,(dL xs (fY x ns).2).2):=by simp only[dL]
def ap (found:List (List GOcc)) (n:GNode) (j:Nat):List GOcc:=found.getD (n.Kids.getD j 0).toNat []
def Bo (time n:Int) (due kid:List GOcc):List GOcc:=kid.foldl (fun s o=>cJ s (jC n o)) (due.filter fun o=> !(o.To==time))
/-- what a part finds at a time, and what becomes of it -/
def aw (mode seen time:Int) (ev:Option Int) (found:List (List GOcc)) (n:GNode):GNode×List GOcc:=
 if n.Kind=1 then(n,if ev=some n.Sym then[⟨time,time,[seen]⟩] else[])
 else if n.Kind=2 then(n,cM (ap found n 0) (ap found n 1))
 else if n.Kind=3 then(⟨n.Kind,n.Sym,n.N,n.Kids,⟨(gi mode n.Pair.Left n.Pair.Right (ap found n 0) (ap found n 1)).1,(gi mode n.Pair.Left n.Pair.Right (ap found n 0) (ap found n 1)).2.1⟩,n.Span,n.Due,n.Many⟩,(gi mode n.Pair.Left n.Pair.Right (ap found n 0) (ap found n 1)).2.2)
 else if n.Kind=4 then(⟨n.Kind,n.Sym,n.N,n.Kids,⟨(kv mode n.Pair.Left (ap found n 0) (ap found n 1)).1,n.Pair.Right⟩,n.Span,n.Due,n.Many⟩,(kv mode n.Pair.Left (ap found n 0) (ap found n 1)).2)
 else if n.Kind=5 then(⟨n.Kind,n.Sym,n.N,n.Kids,n.Pair,⟨(gb mode n.Span.Left n.Span.Mid (ap found n 0) (ap found n 1) (ap found n 2)).1,(gb mode n.Span.Left n.Span.Mid (ap found n 0) (ap found n 1) (ap found n 2)).2.1⟩,n.Due,n.Many⟩,(gb mode n.Span.Left n.Span.Mid (ap found n 0) (ap found n 1) (ap found n 2)).2.2)
 else if n.Kind=6 then(⟨n.Kind,n.Sym,n.N,n.Kids,n.Pair,⟨(cF mode n.Span.Left n.Span.Mid (ap found n 0) (ap found n 1) (ap found n 2)).1,(cF mode n.Span.Left n.Span.Mid (ap found n 0) (ap found n 1) (ap found n 2)).2.1⟩,n.Due,n.Many⟩,(cF mode n.Span.Left n.Span.Mid (ap found n 0) (ap found n 1) (ap found n 2)).2.2)
 else(⟨n.Kind,n.Sym,n.N,n.Kids,n.Pair,n.Span,Bo time n.N n.Due (ap found n 0),n.Many⟩,atM n.Due time)
def eP (r:GNode×List GOcc):GNode:=⟨r.1.Kind,r.1.Sym,r.1.N,r.1.Kids,r.1.Pair,r.1.Span,r.1.Due,r.1.Many+(r.2.length:Int)⟩
def nR (mode seen time:Int) (ev:Option Int) (s:List GNode×List (List GOcc)) (n:GNode):List GNode×List (List GOcc):=
 (s.1++[eP (aw mode seen time ev s.2 n)],s.2++[(aw mode seen time ev s.2 n).2])
/-- a point in time: all parts in order -/
def ax (mode seen time:Int) (ev:Option Int) (ns:List GNode):List GNode×List (List GOcc):=ns.foldl (nR mode seen time ev) ([],[])
def dy (ns:List GNode):Bool:=ns.any fun n=>decide (40<n.Many)
/-- a part stands for an expression -/
def lK (es:List GEx) (i:Nat) (n:GNode) (e:GEx):Prop:=
 n.Kind=e.Kind∧n.Sym=e.Sym∧n.N=e.N∧n.Kids.length=e.Kids.length∧∀j,j<e.Kids.length→∃q:Nat,q<i∧n.Kids[j]? =some (q:Int)∧es[q]? =e.Kids[j]?
def gO (e:GEx):Prop:=cG e=true∧exN e≤12
def Rep (es:List GEx) (ns:List GNode):Prop:=es.length=ns.length∧∀(i:Nat) (n:GNode),ns[i]? =some n→∃e,es[i]? =some e∧gO e∧lK es i n e
/-- what was found at a time, of an expression so large -/
def FO (t:Int) (s:Nat) (l:List GOcc):Prop:=Asc l∧Ids l∧(l.length+40) * (l.length+40)≤41 ^ (s+1)∧∀o∈l,o.To=t
def lB (t:Int) (n:GNode):Prop:=Ok 40 n.Pair.Left∧Ok 40 n.Pair.Right∧Ok 40 n.Span.Left∧Ok 40 n.Span.Mid∧Ok 40 n.Due∧0≤n.Many∧n.Many≤40∧
 All (fun o=>o.To≤t) n.Pair.Left∧All (fun o=>o.To≤t) n.Pair.Right∧All (fun o=>o.To≤t) n.Span.Left∧All (fun o=>o.To≤t) n.Span.Mid
theorem sq_le {x m n:Nat} (h:x * x≤m) (hn:m<(n+1) * (n+1)):x≤n:=by
 rcases qzM n x with h1|h1
 ·have:=Nat.mul_le_mul (show n+1≤x by omega) (show n+1≤x by omega);omega
 ·exact h1
theorem sV {a b:Nat} (h:a≤b):41 ^ a≤41 ^ b:=uK qom h
theorem I7 (x y:Nat):x * y * (x * y)=x * x * (y * y):=by rw[Nat.mul_assoc,Nat.mul_left_comm y x y,←Nat.mul_assoc]
theorem qi {x y a b c:Nat} (hx:x * x≤41 ^ a) (hy:y * y≤41 ^ b) (h:a+b≤c):x * y * (x * y)≤41 ^ c:=by
 rw[I7]
 exact qzz (Nat.mul_le_mul hx hy) (by rw[←Nat.pow_add];exact sV h)
theorem nV {x y m:Nat} (h:x≤y) (hy:y * y≤m):x * x≤m:=qzz (Nat.mul_le_mul h h) hy
theorem Hc {x:Nat} (h:x * x≤41 ^ 13):x≤30420000000:=sq_le h (by decide)
theorem FO.small {t:Int} {s:Nat} {l:List GOcc} (h:FO t s l) (hs:s≤12):l.length≤30420000000:=by
 have:=Hc (qzz h.2.2.1 (sV (show s+1≤13 by omega)));omega
theorem FO.ok {t:Int} {s:Nat} {l:List GOcc} (h:FO t s l):Ok l.length l:=⟨h.1,h.2.1,qzi _⟩
/-- two together -/
theorem FO.two {t:Int} {s s':Nat} {a b:List GOcc} (ha:FO t s a) (hb:FO t s' b) (h:s+s'≤11):(a.length+40) * (b.length+40)≤30420000000:=
 Hc (qi ha.2.2.1 hb.2.2.1 qom)
theorem FO.nil {t:Int} {s:Nat} (h:1≤s):FO t s []:=⟨by simp[Asc],fun x hx=>by simp at hx,qzz (by decide) (sV (show 2≤s+1 by omega)),fun o ho=>by simp at ho⟩
theorem bP {es:List GEx} {i:Nat} {n:GNode} {e:GEx} {found:List (List GOcc)} (h:lK es i n e) (hf:found.length=i) {j:Nat} (hj:j<e.Kids.length) :
  ∃q:Nat,q<i∧n.Kids[j]? =some (q:Int)∧found[q]? =some (ap found n j)∧es[q]? =e.Kids[j]? :=by
 obtain⟨q,h1,h2,h3⟩:=h.2.2.2.2 j hj
 refine⟨q,h1,h2,?_,h3⟩
 unfold ap
 rw[qzt,qzt,h2]
 simp only[vo,qzd]
 rw[qzc qom];rfl
/-- what was found so far -/
def jw (t:Int) (es:List GEx) (found:List (List GOcc)):Prop:=∀(j:Nat) (l:List GOcc),found[j]? =some l→∃e,es[j]? =some e∧FO t (exN e) l
theorem bk {t:Int} {es:List GEx} {i:Nat} {n:GNode} {e:GEx} {found:List (List GOcc)} (h:lK es i n e) (hf:found.length=i) (hF:jw t es found) {j:Nat} {x:GEx} (hj:e.Kids[j]? =some x) :
  FO t (exN x) (ap found n j):=by
 have hj':j<e.Kids.length:=(List.getElem?_eq_some_iff.1 hj).1
 obtain⟨q,h1,h2,h3,h4⟩:=bP h hf hj'
 obtain⟨e',h5,h6⟩:=hF q _ h3
 rw[h4,hj] at h5
 cases h5
 exact h6
theorem ft (e:GEx):1≤exN e:=by rw[dI];omega
theorem tP {α:Type} {l:List α} (h:l.length=1):∃a,l=[a]:=by
 match l,h with
 |[a],_=>exact⟨a,rfl⟩
theorem gB {α:Type} {l:List α} (h:l.length=2):∃a b,l=[a,b]:=by
 match l,h with
 |[a,b],_=>exact⟨a,b,rfl⟩
theorem iQ {α:Type} {l:List α} (h:l.length=3):∃a b c,l=[a,b,c]:=by
 match l,h with
 |[a,b,c],_=>exact⟨a,b,c,rfl⟩
theorem ua {e x:GEx} (h:e.Kids=[x]):exN e=exN x+1:=by rw[dI,h,dB,fC];omega
theorem gC {e x y:GEx} (h:e.Kids=[x,y]):exN e=exN x+exN y+1:=by rw[dI,h,dB,dB,fC];omega
theorem iR {e x y z:GEx} (h:e.Kids=[x,y,z]):exN e=exN x+exN y+exN z+1:=by rw[dI,h,dB,dB,dB,fC];omega
theorem tI {t:Int} {a b:GOcc} (ha:a.To=t) (hb:b.To≤t):(dv a b).To=t:=by show max a.To b.To=t;omega
theorem EC {t:Int}:∀{l:List GOcc} {o:GOcc},(∀x∈l,x.To≤t)→o.To=t→(pF o l).To=t
 |[],_,_,h=>h
 |x::l,o,hl,h=>EC (l:=l) (o:=dv o x) (fun y hy=>hl y (by simp[hy])) (tI h (hl x (by simp)))
theorem CZ {t:Int} {o:GOcc} (ho:o.To=t):∀(l acc:List GOcc),(∀x∈l,x.To≤t)→(∀x∈acc,x.To=t)→∀x∈l.foldl (fun s e=>cJ s (dv o e)) acc,x.To=t
 |[],_,_,h=>h
 |y::l,acc,hl,h=>CZ ho l (cJ acc (dv o y)) (fun z hz=>hl z (by simp[hz])) (fun z hz=>by
   rcases gI.1 hz with h1|rfl
   ·exact h z h1
   ·exact tI ho (hl y (by simp)))
theorem vk {t:Int} {mode:Int} {o:GOcc} {l:List GOcc} (hl:∀x∈l,x.To≤t) (ho:o.To=t):∀x∈eZ mode o l,x.To=t:=by
 unfold eZ
 by_cases h0:l.length=0
 ·rw[if_pos h0];simp
 rw[if_neg h0]
 split
 ·intro x hx;rw[List.mem_singleton.1 hx,qzc (show l.length-1<l.length by omega)];exact tI ho (hl _ (qze _))
 split
 ·intro x hx;rw[List.mem_singleton.1 hx,qzc (show 0<l.length by omega)];exact tI ho (hl _ (qze _))
 split
 ·intro x hx;rw[List.mem_singleton.1 hx];exact EC hl ho
 ·exact CZ ho l [] hl (by simp)
theorem qL {t:Int} {a b:List GOcc} (ha:∀x∈a,x.To=t) (hb:∀x∈b,x.To=t):∀x∈cM a b,x.To=t:=fun x hx=>by
 rcases lQ.1 hx with h|h
 ·exact ha x h
 ·exact hb x h
theorem oF {t:Int} {a b:List GOcc} (ha:∀x∈a,x.To≤t) (hb:∀x∈b,x.To≤t):∀x∈cM a b,x.To≤t:=fun x hx=>by
 rcases lQ.1 hx with h|h
 ·exact ha x h
 ·exact hb x h
theorem EJ {t:Int} {a g:List GOcc} (ha:∀x∈a,x.To≤t):∀x∈ow a g,x.To≤t:=fun x hx=>ha x (List.mem_filter.1 hx).1
/-- those on the right of a sequence or an absence -/
theorem qv {t:Int} {mode:Int} {p:GOcc→GOcc→Bool}:∀(r:List GOcc) (s:List GOcc×List GOcc),(∀x∈r,x.To=t)→(∀x∈s.1,x.To≤t)→(∀x∈s.2,x.To=t)→
  (∀x∈(r.foldl (fy mode p) s).1,x.To≤t)∧(∀x∈(r.foldl (fy mode p) s).2,x.To=t)
 |[],s,_,h1,h2=>⟨h1,h2⟩
 |o::r,s,hr,h1,h2=>by
  rw[ox]
  exact qv r _ (fun x hx=>hr x (by simp[hx])) (EJ h1) (qL h2 (vk (fun x hx=>h1 x (List.mem_filter.1 hx).1) (hr o (by simp))))
theorem FT {t:Int} {mode:Int} {own:List GOcc} {o:GOcc} {b:Bool} (h:∀x∈own,x.To≤t) (ho:o.To≤t):∀x∈kH mode own o b,x.To≤t:=by
 have hp:∀x∈cJ own o,x.To≤t:=fun x hx=>by
  rcases gI.1 hx with h1|rfl
  ·exact h x h1
  ·exact ho
 unfold kH
 split
 ·intro x hx;rw[List.mem_singleton.1 hx];exact ho
 split
 ·exact hp
 split
 ·exact hp
 ·exact h
def ToS (t:Int) (s:List GOcc×List GOcc×List GOcc):Prop:=(∀x∈s.1,x.To≤t)∧(∀x∈s.2.1,x.To≤t)∧∀x∈s.2.2,x.To=t
theorem ToS.half {t:Int} {mode:Int} {s:List GOcc×List GOcc×List GOcc} {o:GOcc} (h:ToS t s) (ho:o.To=t):ToS t (fW mode s o):=
 ⟨FT h.1 qom,EJ h.2.1,qL h.2.2 (vk h.2.1 ho)⟩
theorem ToS.other {t:Int} {mode:Int} {s:List GOcc×List GOcc×List GOcc} {o:GOcc} (h:ToS t s) (ho:o.To=t):ToS t (mM mode s o):=by
 obtain⟨a,b,c⟩:=ToS.half (mode:=mode) (s:=(s.2.1,s.1,s.2.2)) ⟨h.2.1,h.1,h.2.2⟩ ho
 exact⟨b,a,c⟩
theorem FQ {t:Int} {mode:Int} {l r left right:List GOcc} (h1:∀x∈l,x.To≤t) (h2:∀x∈r,x.To≤t) (hl:∀x∈left,x.To=t) (hr:∀x∈right,x.To=t):ToS t (gi mode l r left right):=by
 unfold gi
 exact jW (ToS t) _ right _ (fun s x hx hs=>hs.other (hr x hx)) (jW (ToS t) _ left _ (fun s x hx hs=>hs.half (hl x hx)) ⟨h1,h2,by simp⟩)
theorem Fu {t:Int} {mode:Int} {l mid:List GOcc} (h1:∀x∈l,x.To≤t):∀(b acc:List GOcc),(∀x∈b,x.To=t)→(∀x∈acc,x.To=t)→∀x∈b.foldl (fun s o=>cM s (eZ mode o (l.filter (ed mid o)))) acc,x.To=t
 |[],_,_,h=>h
 |o::b,acc,hb,h=>Fu h1 b _ (fun x hx=>hb x (by simp[hx])) (qL h (vk (fun x hx=>h1 x (List.mem_filter.1 hx).1) (hb o (by simp))))
theorem qY {n:Int} {o:GOcc} (h:cL o.Ids):cL (jC n o).Ids:=h
/-- what waits, with what comes later -/
theorem Fd {n:Int}:∀(kid:List GOcc) (acc:List GOcc) (m:Nat),Ok m acc→Ids kid→Ok (m+kid.length) (kid.foldl (fun s o=>cJ s (jC n o)) acc)
 |[],acc,m,h,_=>h
 |o::kid,acc,m,h,hk=>by
  rw[ox]
  have:=Fd (n:=n) kid (cJ acc (jC n o)) (m+1) (h.put (qY (hk o (by simp)))) (fun x hx=>hk x (by simp[hx]))
  exact this.mono (by simp;omega)
theorem cp (a b:Nat):(a+40) * (b+40)=a * b+40 * a+40 * b+1600:=by
 rw[qzJ,Nat.mul_add,Nat.mul_add];omega
theorem FO.of {t:Int} {s:Nat} {l:List GOcc} {m:Nat} (h:Ok m l) (hm:(m+40) * (m+40)≤41 ^ (s+1)) (ht:∀o∈l,o.To=t):FO t s l:=
 ⟨h.1,h.2.1,nV (show l.length+40≤m+40 by have:=h.2.2;omega) hm,ht⟩
theorem tT {t seen mode:Int} {ev:Option Int} {es:List GEx} {i:Nat} {n:GNode} {e:GEx} {found:List (List GOcc)} (hx:gO e) (hR:lK es i n e) (hS:lB t n) (hf:found.length=i) (hF:jw t es found) (hs:0≤seen∧seen≤23) :
  FO t (exN e) (aw mode seen t ev found n).2:=by
 obtain⟨S1,S2,S3,S4,S5,_,_,T1,T2,T3,T4⟩:=hS
 have hp:=ft e
 have h12:=hx.2
 unfold aw
 rcases gZ (cT hx.1).1 with⟨hk,hl⟩|⟨hk,hl⟩|⟨hk,hl⟩|⟨hk,hl⟩|⟨hk,hl⟩|⟨hk,hl⟩|⟨hk,hl⟩ <;> rw[←hR.1] at hk
 ·rw[if_pos hk]
  simp only
  split
  ·refine⟨by simp[Asc],fun o ho=>?_,qzz (by decide:(1+40) * (1+40)≤41 ^ 2) (sV qom),fun o ho=>by rw[List.mem_singleton.1 ho]⟩
   rw[List.mem_singleton.1 ho]
   exact⟨by simp[Up],fun x hx=>by rw[List.mem_singleton.1 hx];exact hs⟩
  ·exact FO.nil hp
 ·obtain⟨x,y,hK⟩:=gB hl
  have a:=bk hR hf hF (j:=0) (x:=x) (by rw[hK];rfl)
  have b:=bk hR hf hF (j:=1) (x:=y) (by rw[hK];rfl)
  rw[if_neg qom,if_pos hk]
  refine FO.of (a.ok.merge b.ok) ?_ (qL a.2.2.2 b.2.2.2)
  rw[gC hK]
  exact nV (by rw[cp];omega) (qi a.2.2.1 b.2.2.1 qom)
 ·obtain⟨x,y,hK⟩:=gB hl
  have a:=bk hR hf hF (j:=0) (x:=x) (by rw[hK];rfl)
  have b:=bk hR hf hF (j:=1) (x:=y) (by rw[hK];rfl)
  rw[if_neg qom,if_neg qom,if_pos hk]
  refine FO.of (De (mode:=mode) S1 S2 a.2.1 b.2.1 (qzi _) (qzi _)).2.2 ?_ (FQ T1 T2 a.2.2.2 b.2.2.2).2.2
  rw[gC hK]
  refine nV ?_ (qi a.2.2.1 b.2.2.1 (show exN x+1+(exN y+1)≤exN x+exN y+1+1 by omega))
  rw[cp,Nat.mul_add,Nat.mul_comm (ap found n 1).length (ap found n 0).length]
  omega
 ·obtain⟨x,y,hK⟩:=gB hl
  have a:=bk hR hf hF (j:=0) (x:=x) (by rw[hK];rfl)
  have b:=bk hR hf hF (j:=1) (x:=y) (by rw[hK];rfl)
  have hN:=gC hK
  have h2:=a.two b qom
  rw[cp] at h2
  rw[if_neg qom,if_neg qom,if_neg qom,if_pos hk]
  refine FO.of (xm 1000000000000 (qzi _) mode n.Pair _ _ 40 (ap found n 1).length qom qom qom S1 a.2.1 b.2.1 qom (qzi _)).2.2 ?_ (qv _ (n.Pair.Left,[]) b.2.2.2 T1 (by simp)).2
  rw[hN]
  refine nV ?_ (qi a.2.2.1 b.2.2.1 (show exN x+1+(exN y+1)≤exN x+exN y+1+1 by omega))
  rw[cp];omega
 ·obtain⟨x,y,z,hK⟩:=iQ hl
  have a:=bk hR hf hF (j:=0) (x:=x) (by rw[hK];rfl)
  have b:=bk hR hf hF (j:=1) (x:=y) (by rw[hK];rfl)
  have c:=bk hR hf hF (j:=2) (x:=z) (by rw[hK];rfl)
  have hN:=iR hK
  have py:=ft y
  have h2:=a.two c qom
  have h3:=b.small qom
  rw[cp] at h2
  rw[if_neg qom,if_neg qom,if_neg qom,if_neg qom,if_pos hk]
  refine FO.of (yd 1000000000000 (qzi _) mode n.Span _ _ _ 40 (ap found n 2).length qom qom qom S3 S4 a.2.1 b.2.1 c.2.1 qom qom (qzi _)).2.2.2 ?_ (qv _ (n.Span.Left,[]) c.2.2.2 T3 (by simp)).2
  rw[hN]
  refine nV ?_ (qi a.2.2.1 c.2.2.1 (show exN x+1+(exN z+1)≤exN x+exN y+exN z+1+1 by omega))
  rw[cp];omega
 ·obtain⟨x,y,z,hK⟩:=iQ hl
  have a:=bk hR hf hF (j:=0) (x:=x) (by rw[hK];rfl)
  have b:=bk hR hf hF (j:=1) (x:=y) (by rw[hK];rfl)
  have c:=bk hR hf hF (j:=2) (x:=z) (by rw[hK];rfl)
  have hN:=iR hK
  have pz:=ft z
  have h2:=a.two b qom
  have h3:=c.small qom
  rw[cp] at h2
  rw[if_neg qom,if_neg qom,if_neg qom,if_neg qom,if_neg qom,if_pos hk]
  refine FO.of (vx 1000000000000 (qzi _) mode n.Span _ _ _ 40 (ap found n 1).length qom qom qom S3 S4 a.2.1 b.2.1 c.2.1 qom (qzi _) qom).2.2.2 ?_ (Fu T3 _ _ b.2.2.2 (by simp))
  rw[hN]
  refine nV ?_ (qi a.2.2.1 b.2.2.1 (show exN x+1+(exN y+1)≤exN x+exN y+exN z+1+1 by omega))
  rw[cp];omega
 ·obtain⟨x,hK⟩:=tP hl.1
  rw[if_neg qom,if_neg qom,if_neg qom,if_neg qom,if_neg qom,if_neg qom]
  have hN:=ua hK
  have px:=ft x
  refine FO.of (S5.filter _) (qzz (by decide:(40+40) * (40+40)≤41 ^ 3) (sV qom)) (fun o ho=>?_)
  have:=(List.mem_filter.1 ho).2
  simpa using this
theorem C4 (o:GOcc) (n:Int) (h:Few o) (h1: -100000≤o.To+n∧o.To+n≤200000):hO.f o n=some (jC n o):=by
 unfold hO.f
 rw[tZ _ h]
 simp only[qzb]
 rw[wr _ qom]
 rfl
def jz (n:GNode) (d:List GOcc):GNode:=⟨n.Kind,n.Sym,n.N,n.Kids,n.Pair,n.Span,d,n.Many⟩
theorem oI (k:Nat) (hk:1000000000000≤k) (kid:List GOcc) (ns:List GNode) (i m:Nat) (n:GNode) (hi:i<ns.length) (hm:m+kid.length≤80000000000) (hd:Ok m n.Due) (hid:Ids kid) (ht:∀o∈kid, -100000≤o.To+n.N∧o.To+n.N≤200000) :
  aj.l2 k kid (i:Int) k (ns.set i n) 0=some (ns.set i (jz n (kid.foldl (fun s o=>cJ s (jC n.N o)) n.Due))):=by
 have:=fd (fun s:List GOcc=>ns.set i (jz n s)) kid (fun s o=>(hO.f o n.N).bind fun x=>fk.f k s x) (fun N s j=>aj.l2 k kid (i:Int) N (ns.set i (jz n s)) j) (fun s o=>cJ s (jC n.N o)) (fun j s=>Ok (m+j) s)
  (fun N s=>by rw[aj.l2,if_neg qom])
  (fun N s j h=>by
   rw[aj.l2,if_pos qom,ac qom,qzd,qzc h]
   simp only[qzb,qzQ,qzd]
   rw[rY hi]
   simp only[qzb,np]
   rw[wrS j qom]
   rfl)
  (fun j s h hI=>by
   have ho:=hid _ (qze h)
   have hf:Few kid[j]:=by have:=co ho;omega
   have:=hI.2.2
   refine⟨?_,(hI.put (qY ho)).mono qom⟩
   rw[C4 _ _ hf (ht _ (qze h))]
   simp only[qzb]
   rw[kO k hk _ _ qom hI.2.1.few hI.1])
  k n.Due qom (by simpa using hd)
 exact this.1
theorem qw (k:Nat) (hk:1000000000000≤k) (kid:List GOcc) (ns:List GNode) (i m:Nat) (n:GNode) (hi:i<ns.length) (hm:m+kid.length≤80000000000) (hd:Ok m n.Due) (hid:Ids kid) (ht:∀o∈kid, -100000≤o.To+n.N∧o.To+n.N≤200000) :
  am.l2 k kid (i:Int) k (ns.set i n) 0=some (ns.set i (jz n (kid.foldl (fun s o=>cJ s (jC n.N o)) n.Due))):=by
 have:=fd (fun s:List GOcc=>ns.set i (jz n s)) kid (fun s o=>(hO.f o n.N).bind fun x=>fk.f k s x) (fun N s j=>am.l2 k kid (i:Int) N (ns.set i (jz n s)) j) (fun s o=>cJ s (jC n.N o)) (fun j s=>Ok (m+j) s)
  (fun N s=>by rw[am.l2,if_neg qom])
  (fun N s j h=>by
   rw[am.l2,if_pos qom,ac qom,qzd,qzc h]
   simp only[qzb,qzQ,qzd]
   rw[rY hi]
   simp only[qzb,np]
   rw[wrS j qom]
   rfl)
  (fun j s h hI=>by
   have ho:=hid _ (qze h)
   have hf:Few kid[j]:=by have:=co ho;omega
   have:=hI.2.2
   refine⟨?_,(hI.put (qY ho)).mono qom⟩
   rw[C4 _ _ hf (ht _ (qze h))]
   simp only[qzb]
   rw[kO k hk _ _ qom hI.2.1.few hI.1])
  k n.Due qom (by simpa using hd)
 exact this.1
theorem H1 (k:Nat) (hk:1000000000000≤k) (g:GGraph) (t:Int) (N i:Nat) (ns:List GNode) (full:Bool) (found:List (List GOcc)) (n:GNode) (e:GEx) (es:List GEx) (hi:i<g.Nodes.length) (hg:g.Nodes.length≤1000) (hl:ns.length=g.Nodes.length) (hn:ns[i]? =some n)
  (hx:gO e) (hR:lK es i n e) (hS:lB t n) (hf:found.length=i) (hF:jw t es found) (hs:0≤g.Seen∧g.Seen≤23) (ht:0≤t∧t≤100000) :
  aj.l1 k g t (N+1) ns full found (i:Int)=aj.l1 k g t N (ns.set i (eP (aw g.Mode g.Seen t none found n))) (full||decide (40<(eP (aw g.Mode g.Seen t none found n)).Many)) (found++[(aw g.Mode g.Seen t none found n).2]) ((i+1:Nat):Int):=by
 have hout:=tT (mode:=g.Mode) (seen:=g.Seen) (ev:=none) hx hR hS hf hF hs
 have h12:=hx.2
 have hsm:=hout.small h12
 obtain⟨S1,S2,S3,S4,S5,m0,m1,T1,T2,T3,T4⟩:=hS
 have W:∀(q:Nat),q≤30420000000→IntKind.wrap .i64 (n.Many+(q:Int))=n.Many+(q:Int):=fun q hq=>wr _ qom
 have fin:∀(m:GNode) (out:List GOcc),aw g.Mode g.Seen t none found n=(m,out)→m.Many=n.Many→∀m':GNode,m'=eP (m,out)→
   (if full=true then aj.l1 k g t N (ns.set i m') true (found++[out]) ((i+1:Nat):Int) else aj.l1 k g t N (ns.set i m') (decide (40<n.Many+(out.length:Int))) (found++[out]) ((i+1:Nat):Int)) =
   aj.l1 k g t N (ns.set i (eP (aw g.Mode g.Seen t none found n))) (full||decide (40<(eP (aw g.Mode g.Seen t none found n)).Many)) (found++[(aw g.Mode g.Seen t none found n).2]) ((i+1:Nat):Int):=by
  intro m out h hm m' hm'
  rw[h,hm']
  have:(eP (m,out)).Many=n.Many+(out.length:Int):=by show m.Many+_=_;rw[hm]
  rw[this]
  cases full
  ·rw[if_neg (by decide),oc]
  ·rw[if_pos rfl,Bool.true_or]
 rw[aj.l1,if_pos qom,ac qom,ac qom,qzd,hn]
 simp only[qzb]
 rw[wrS i qom]
 rcases gZ (cT hx.1).1 with⟨hk',hK⟩|⟨hk',hK⟩|⟨hk',hK⟩|⟨hk',hK⟩|⟨hk',hK⟩|⟨hk',hK⟩|⟨hk',hK⟩ <;> rw[←hR.1] at hk'
 ·rw[if_pos hk',ac qom]
  have hfd:aw g.Mode g.Seen t none found n=(n,[]):=by unfold aw;rw[if_pos hk',if_neg (by simp)]
  rw[show IntKind.wrap .i64 (n.Many+0)=n.Many+(([]:List GOcc).length:Int) from W 0 qom]
  exact fin n _ hfd rfl _ rfl
 ·have a:=bk hR hf hF (j:=0) (x:=e.Kids[0]'qom) (by simp)
  have b:=bk hR hf hF (j:=1) (x:=e.Kids[1]'qom) (by simp)
  have hN:exN (e.Kids[0]'qom)+exN (e.Kids[1]'qom)+1=exN e:=by obtain⟨x,y,hK'⟩:=gB hK;rw[gC hK'];simp only[hK',qzy,qzE]
  have h2:=a.two b qom
  rw[cp] at h2
  obtain⟨q0,a1,a2,a3,_⟩:=bP hR hf (j:=0) (by rw[hK];decide)
  obtain⟨q1,b1,b2,b3,_⟩:=bP hR hf (j:=1) (by rw[hK];decide)
  rw[if_neg qom,if_pos hk']
  rw[ac qom,a2]
  simp only[qzb]
  rw[ac qom,ac qom,qzd,a3]
  simp only[qzb]
  rw[ac qom,b2]
  simp only[qzb]
  rw[ac qom,ac qom,qzd,b3]
  simp only[qzb]
  rw[dk k hk _ _ qom a.2.1.few b.2.1.few a.1]
  simp only[qzb]
  rw[ac qom]
  have hfd:aw g.Mode g.Seen t none found n=(n,cM (ap found n 0) (ap found n 1)):=by unfold aw;rw[if_neg qom,if_pos hk']
  rw[hfd] at hsm
  rw[W _ hsm]
  exact fin n _ hfd rfl _ rfl
 ·have a:=bk hR hf hF (j:=0) (x:=e.Kids[0]'qom) (by simp)
  have b:=bk hR hf hF (j:=1) (x:=e.Kids[1]'qom) (by simp)
  have hN:exN (e.Kids[0]'qom)+exN (e.Kids[1]'qom)+1=exN e:=by obtain⟨x,y,hK'⟩:=gB hK;rw[gC hK'];simp only[hK',qzy,qzE]
  have h2:=a.two b qom
  rw[cp] at h2
  obtain⟨q0,a1,a2,a3,_⟩:=bP hR hf (j:=0) (by rw[hK];decide)
  obtain⟨q1,b1,b2,b3,_⟩:=bP hR hf (j:=1) (by rw[hK];decide)
  rw[if_neg qom,if_neg qom,if_pos hk']
  rw[ac qom,a2]
  simp only[qzb]
  rw[ac qom,ac qom,qzd,a3]
  simp only[qzb]
  rw[ac qom,b2]
  simp only[qzb]
  rw[ac qom,ac qom,qzd,b3]
  simp only[qzb]
  rw[CY k hk g.Mode n.Pair _ _ 40 40 (ap found n 0).length (ap found n 1).length S1 S2 a.2.1 b.2.1 (qzi _) (qzi _) (by rw[Nat.mul_add,Nat.mul_comm (ap found n 1).length (ap found n 0).length];omega)]
  simp only[qzb]
  rw[ac qom]
  have hfd:aw g.Mode g.Seen t none found n=(⟨n.Kind,n.Sym,n.N,n.Kids,⟨(gi g.Mode n.Pair.Left n.Pair.Right (ap found n 0) (ap found n 1)).1,(gi g.Mode n.Pair.Left n.Pair.Right (ap found n 0) (ap found n 1)).2.1⟩,n.Span,n.Due,n.Many⟩,(gi g.Mode n.Pair.Left n.Pair.Right (ap found n 0) (ap found n 1)).2.2):=by unfold aw;rw[if_neg qom,if_neg qom,if_pos hk']
  rw[hfd] at hsm
  simp only[np]
  rw[W _ hsm]
  exact fin _ _ hfd rfl _ rfl
 ·have a:=bk hR hf hF (j:=0) (x:=e.Kids[0]'qom) (by simp)
  have b:=bk hR hf hF (j:=1) (x:=e.Kids[1]'qom) (by simp)
  have hN:exN (e.Kids[0]'qom)+exN (e.Kids[1]'qom)+1=exN e:=by obtain⟨x,y,hK'⟩:=gB hK;rw[gC hK'];simp only[hK',qzy,qzE]
  have h2:=a.two b qom
  rw[cp] at h2
  obtain⟨q0,a1,a2,a3,_⟩:=bP hR hf (j:=0) (by rw[hK];decide)
  obtain⟨q1,b1,b2,b3,_⟩:=bP hR hf (j:=1) (by rw[hK];decide)
  rw[if_neg qom,if_neg qom,if_neg qom,if_pos hk']
  rw[ac qom,a2]
  simp only[qzb]
  rw[ac qom,ac qom,qzd,a3]
  simp only[qzb]
  rw[ac qom,b2]
  simp only[qzb]
  rw[ac qom,ac qom,qzd,b3]
  simp only[qzb]
  rw[(xm k hk g.Mode n.Pair _ _ 40 (ap found n 1).length qom qom qom S1 a.2.1 b.2.1 qom (qzi _)).1]
  simp only[qzb]
  rw[ac qom]
  have hfd:aw g.Mode g.Seen t none found n=(⟨n.Kind,n.Sym,n.N,n.Kids,⟨(kv g.Mode n.Pair.Left (ap found n 0) (ap found n 1)).1,n.Pair.Right⟩,n.Span,n.Due,n.Many⟩,(kv g.Mode n.Pair.Left (ap found n 0) (ap found n 1)).2):=by unfold aw;rw[if_neg qom,if_neg qom,if_neg qom,if_pos hk']
  rw[hfd] at hsm
  simp only[np]
  rw[W _ hsm]
  exact fin _ _ hfd rfl _ rfl
 ·have a:=bk hR hf hF (j:=0) (x:=e.Kids[0]'qom) (by simp)
  have b:=bk hR hf hF (j:=1) (x:=e.Kids[1]'qom) (by simp)
  have c:=bk hR hf hF (j:=2) (x:=e.Kids[2]'qom) (by simp)
  have hN:exN (e.Kids[0]'qom)+exN (e.Kids[1]'qom)+exN (e.Kids[2]'qom)+1=exN e:=by obtain⟨x,y,z,hK'⟩:=iQ hK;rw[iR hK'];simp only[hK',qzy,qzE]
  have:=ft (e.Kids[1]'qom)
  have:=ft (e.Kids[2]'qom)
  have h2:=a.two c qom
  have h3:=b.small qom
  rw[cp] at h2
  obtain⟨q0,a1,a2,a3,_⟩:=bP hR hf (j:=0) (by rw[hK];decide)
  obtain⟨q1,b1,b2,b3,_⟩:=bP hR hf (j:=1) (by rw[hK];decide)
  obtain⟨q2,c1,c2,c3,_⟩:=bP hR hf (j:=2) (by rw[hK];decide)
  rw[if_neg qom,if_neg qom,if_neg qom,if_neg qom,if_pos hk']
  rw[ac qom,a2]
  simp only[qzb]
  rw[ac qom,ac qom,qzd,a3]
  simp only[qzb]
  rw[ac qom,b2]
  simp only[qzb]
  rw[ac qom,ac qom,qzd,b3]
  simp only[qzb]
  rw[ac qom,c2]
  simp only[qzb]
  rw[ac qom,ac qom,qzd,c3]
  simp only[qzb]
  rw[(yd k hk g.Mode n.Span _ _ _ 40 (ap found n 2).length qom qom qom S3 S4 a.2.1 b.2.1 c.2.1 qom qom (qzi _)).1]
  simp only[qzb]
  rw[ac qom]
  have hfd:aw g.Mode g.Seen t none found n=(⟨n.Kind,n.Sym,n.N,n.Kids,n.Pair,⟨(gb g.Mode n.Span.Left n.Span.Mid (ap found n 0) (ap found n 1) (ap found n 2)).1,(gb g.Mode n.Span.Left n.Span.Mid (ap found n 0) (ap found n 1) (ap found n 2)).2.1⟩,n.Due,n.Many⟩,(gb g.Mode n.Span.Left n.Span.Mid (ap found n 0) (ap found n 1) (ap found n 2)).2.2):=by unfold aw;rw[if_neg qom,if_neg qom,if_neg qom,if_neg qom,if_pos hk']
  rw[hfd] at hsm
  simp only[np]
  rw[W _ hsm]
  exact fin _ _ hfd rfl _ rfl
 ·have a:=bk hR hf hF (j:=0) (x:=e.Kids[0]'qom) (by simp)
  have b:=bk hR hf hF (j:=1) (x:=e.Kids[1]'qom) (by simp)
  have c:=bk hR hf hF (j:=2) (x:=e.Kids[2]'qom) (by simp)
  have hN:exN (e.Kids[0]'qom)+exN (e.Kids[1]'qom)+exN (e.Kids[2]'qom)+1=exN e:=by obtain⟨x,y,z,hK'⟩:=iQ hK;rw[iR hK'];simp only[hK',qzy,qzE]
  have:=ft (e.Kids[1]'qom)
  have:=ft (e.Kids[2]'qom)
  have h2:=a.two b qom
  have h3:=c.small qom
  rw[cp] at h2
  obtain⟨q0,a1,a2,a3,_⟩:=bP hR hf (j:=0) (by rw[hK];decide)
  obtain⟨q1,b1,b2,b3,_⟩:=bP hR hf (j:=1) (by rw[hK];decide)
  obtain⟨q2,c1,c2,c3,_⟩:=bP hR hf (j:=2) (by rw[hK];decide)
  rw[if_neg qom,if_neg qom,if_neg qom,if_neg qom,if_neg qom,if_pos hk']
  rw[ac qom,a2]
  simp only[qzb]
  rw[ac qom,ac qom,qzd,a3]
  simp only[qzb]
  rw[ac qom,b2]
  simp only[qzb]
  rw[ac qom,ac qom,qzd,b3]
  simp only[qzb]
  rw[ac qom,c2]
  simp only[qzb]
  rw[ac qom,ac qom,qzd,c3]
  simp only[qzb]
  rw[(vx k hk g.Mode n.Span _ _ _ 40 (ap found n 1).length qom qom qom S3 S4 a.2.1 b.2.1 c.2.1 qom (qzi _) qom).1]
  simp only[qzb]
  rw[ac qom]
  have hfd:aw g.Mode g.Seen t none found n=(⟨n.Kind,n.Sym,n.N,n.Kids,n.Pair,⟨(cF g.Mode n.Span.Left n.Span.Mid (ap found n 0) (ap found n 1) (ap found n 2)).1,(cF g.Mode n.Span.Left n.Span.Mid (ap found n 0) (ap found n 1) (ap found n 2)).2.1⟩,n.Due,n.Many⟩,(cF g.Mode n.Span.Left n.Span.Mid (ap found n 0) (ap found n 1) (ap found n 2)).2.2):=by unfold aw;rw[if_neg qom,if_neg qom,if_neg qom,if_neg qom,if_neg qom,if_pos hk']
  rw[hfd] at hsm
  simp only[np]
  rw[W _ hsm]
  exact fin _ _ hfd rfl _ rfl
 ·have a:=bk hR hf hF (j:=0) (x:=e.Kids[0]'qom) (by simp)
  have hN:exN (e.Kids[0]'qom)+1=exN e:=by obtain⟨x,hK'⟩:=tP hK.1;rw[ua hK'];simp only[hK',qzy]
  have hsa:=a.small qom
  obtain⟨q0,a1,a2,a3,_⟩:=bP hR hf (j:=0) (by rw[hK.1];decide)
  have hd:=S5.filter (fun o=> !(o.To==t))
  have:=S5.2.2
  rw[if_neg qom,if_neg qom,if_neg qom,if_neg qom,if_neg qom,if_neg qom,wv k hk _ _ qom]
  simp only[qzb]
  have hth:aX.f (fun y0=>eh.f y0 t) k n.Due=some (n.Due.filter fun o=> !(o.To==t)):=oa k hk _ _ _ qom (fun x hx=>rfl)
  rw[hth]
  simp only[qzb]
  rw[ac qom,a2]
  simp only[qzb]
  rw[ac qom,ac qom,qzd,a3]
  simp only[qzb]
  have hl2:=oI k hk (ap found n 0) ns i 40 (jz n (n.Due.filter fun o=> !(o.To==t))) qom qom hd a.2.1 (fun o ho=>by have:=a.2.2.2 o ho;have h7:=hR.2.2.1;have hh:=hK.2;show -100000≤o.To+n.N∧o.To+n.N≤200000;omega)
  simp only[jz] at hl2
  rw[hl2]
  simp only[qzb]
  rw[ac qom,rY qom]
  simp only[qzb,np]
  have hfd:aw g.Mode g.Seen t none found n=(⟨n.Kind,n.Sym,n.N,n.Kids,n.Pair,n.Span,Bo t n.N n.Due (ap found n 0),n.Many⟩,atM n.Due t):=by unfold aw;rw[if_neg qom,if_neg qom,if_neg qom,if_neg qom,if_neg qom,if_neg qom]
  rw[hfd] at hsm
  show(if full=true then aj.l1 k g t N (ns.set i ⟨n.Kind,n.Sym,n.N,n.Kids,n.Pair,n.Span,_,IntKind.wrap .i64 (n.Many+((atM n.Due t).length:Int))⟩) true _ _ else aj.l1 k g t N (ns.set i ⟨n.Kind,n.Sym,n.N,n.Kids,n.Pair,n.Span,_,IntKind.wrap .i64 (n.Many+((atM n.Due t).length:Int))⟩) (decide (40<IntKind.wrap .i64 (n.Many+((atM n.Due t).length:Int)))) _ _)=_
  rw[W _ hsm]
  exact fin _ _ hfd rfl _ rfl
theorem HO (k:Nat) (hk:1000000000000≤k) (g:GGraph) (t:Int) (x:GEv) (N i:Nat) (ns:List GNode) (full:Bool) (found:List (List GOcc)) (n:GNode) (e:GEx) (es:List GEx) (hi:i<g.Nodes.length) (hg:g.Nodes.length≤1000) (hl:ns.length=g.Nodes.length) (hn:ns[i]? =some n)
  (hx:gO e) (hR:lK es i n e) (hS:lB t n) (hf:found.length=i) (hF:jw t es found) (hs:0≤g.Seen∧g.Seen≤23) (ht:0≤t∧t≤100000) :
  am.l1 k g t x (N+1) ns full found (i:Int)=am.l1 k g t x N (ns.set i (eP (aw g.Mode g.Seen t (some x.Sym) found n))) (full||decide (40<(eP (aw g.Mode g.Seen t (some x.Sym) found n)).Many)) (found++[(aw g.Mode g.Seen t (some x.Sym) found n).2]) ((i+1:Nat):Int):=by
 have hout:=tT (mode:=g.Mode) (seen:=g.Seen) (ev:=(some x.Sym)) hx hR hS hf hF hs
 have h12:=hx.2
 have hsm:=hout.small h12
 obtain⟨S1,S2,S3,S4,S5,m0,m1,T1,T2,T3,T4⟩:=hS
 have W:∀(q:Nat),q≤30420000000→IntKind.wrap .i64 (n.Many+(q:Int))=n.Many+(q:Int):=fun q hq=>wr _ qom
 have fin:∀(m:GNode) (out:List GOcc),aw g.Mode g.Seen t (some x.Sym) found n=(m,out)→m.Many=n.Many→∀m':GNode,m'=eP (m,out)→
   (if full=true then am.l1 k g t x N (ns.set i m') true (found++[out]) ((i+1:Nat):Int) else am.l1 k g t x N (ns.set i m') (decide (40<n.Many+(out.length:Int))) (found++[out]) ((i+1:Nat):Int)) =
   am.l1 k g t x N (ns.set i (eP (aw g.Mode g.Seen t (some x.Sym) found n))) (full||decide (40<(eP (aw g.Mode g.Seen t (some x.Sym) found n)).Many)) (found++[(aw g.Mode g.Seen t (some x.Sym) found n).2]) ((i+1:Nat):Int):=by
  intro m out h hm m' hm'
  rw[h,hm']
  have:(eP (m,out)).Many=n.Many+(out.length:Int):=by show m.Many+_=_;rw[hm]
  rw[this]
  cases full
  ·rw[if_neg (by decide),oc]
  ·rw[if_pos rfl,Bool.true_or]
 rw[am.l1,if_pos qom,ac qom,ac qom,qzd,hn]
 simp only[qzb]
 rw[wrS i qom]
 rcases gZ (cT hx.1).1 with⟨hk',hK⟩|⟨hk',hK⟩|⟨hk',hK⟩|⟨hk',hK⟩|⟨hk',hK⟩|⟨hk',hK⟩|⟨hk',hK⟩ <;> rw[←hR.1] at hk'
 ·rw[if_pos hk']
  by_cases hsym:x.Sym=n.Sym
  ·rw[if_pos hsym,ac qom]
   have hfd:aw g.Mode g.Seen t (some x.Sym) found n=(n,[⟨t,t,[g.Seen]⟩]):=by unfold aw;rw[if_pos hk',if_pos (by rw[hsym])]
   rw[show IntKind.wrap .i64 (n.Many+((1:Nat):Int))=n.Many+(([⟨t,t,[g.Seen]⟩]:List GOcc).length:Int) from W 1 qom]
   exact fin n _ hfd rfl _ rfl
  ·rw[if_neg hsym,ac qom]
   have hfd:aw g.Mode g.Seen t (some x.Sym) found n=(n,[]):=by unfold aw;rw[if_pos hk',if_neg (by simpa using hsym)]
   rw[show IntKind.wrap .i64 (n.Many+0)=n.Many+(([]:List GOcc).length:Int) from W 0 qom]
   exact fin n _ hfd rfl _ rfl
 ·have a:=bk hR hf hF (j:=0) (x:=e.Kids[0]'qom) (by simp)
  have b:=bk hR hf hF (j:=1) (x:=e.Kids[1]'qom) (by simp)
  have hN:exN (e.Kids[0]'qom)+exN (e.Kids[1]'qom)+1=exN e:=by obtain⟨x,y,hK'⟩:=gB hK;rw[gC hK'];simp only[hK',qzy,qzE]
  have h2:=a.two b qom
  rw[cp] at h2
  obtain⟨q0,a1,a2,a3,_⟩:=bP hR hf (j:=0) (by rw[hK];decide)
  obtain⟨q1,b1,b2,b3,_⟩:=bP hR hf (j:=1) (by rw[hK];decide)
  rw[if_neg qom,if_pos hk']
  rw[ac qom,a2]
  simp only[qzb]
  rw[ac qom,ac qom,qzd,a3]
  simp only[qzb]
  rw[ac qom,b2]
  simp only[qzb]
  rw[ac qom,ac qom,qzd,b3]
  simp only[qzb]
  rw[dk k hk _ _ qom a.2.1.few b.2.1.few a.1]
  simp only[qzb]
  rw[ac qom]
  have hfd:aw g.Mode g.Seen t (some x.Sym) found n=(n,cM (ap found n 0) (ap found n 1)):=by unfold aw;rw[if_neg qom,if_pos hk']
  rw[hfd] at hsm
  rw[W _ hsm]
  exact fin n _ hfd rfl _ rfl
 ·have a:=bk hR hf hF (j:=0) (x:=e.Kids[0]'qom) (by simp)
  have b:=bk hR hf hF (j:=1) (x:=e.Kids[1]'qom) (by simp)
  have hN:exN (e.Kids[0]'qom)+exN (e.Kids[1]'qom)+1=exN e:=by obtain⟨x,y,hK'⟩:=gB hK;rw[gC hK'];simp only[hK',qzy,qzE]
  have h2:=a.two b qom
  rw[cp] at h2
  obtain⟨q0,a1,a2,a3,_⟩:=bP hR hf (j:=0) (by rw[hK];decide)
  obtain⟨q1,b1,b2,b3,_⟩:=bP hR hf (j:=1) (by rw[hK];decide)
  rw[if_neg qom,if_neg qom,if_pos hk']
  rw[ac qom,a2]
  simp only[qzb]
  rw[ac qom,ac qom,qzd,a3]
  simp only[qzb]
  rw[ac qom,b2]
  simp only[qzb]
  rw[ac qom,ac qom,qzd,b3]
  simp only[qzb]
  rw[CY k hk g.Mode n.Pair _ _ 40 40 (ap found n 0).length (ap found n 1).length S1 S2 a.2.1 b.2.1 (qzi _) (qzi _) (by rw[Nat.mul_add,Nat.mul_comm (ap found n 1).length (ap found n 0).length];omega)]
  simp only[qzb]
  rw[ac qom]
  have hfd:aw g.Mode g.Seen t (some x.Sym) found n=(⟨n.Kind,n.Sym,n.N,n.Kids,⟨(gi g.Mode n.Pair.Left n.Pair.Right (ap found n 0) (ap found n 1)).1,(gi g.Mode n.Pair.Left n.Pair.Right (ap found n 0) (ap found n 1)).2.1⟩,n.Span,n.Due,n.Many⟩,(gi g.Mode n.Pair.Left n.Pair.Right (ap found n 0) (ap found n 1)).2.2):=by unfold aw;rw[if_neg qom,if_neg qom,if_pos hk']
  rw[hfd] at hsm
  simp only[np]
  rw[W _ hsm]
  exact fin _ _ hfd rfl _ rfl
 ·have a:=bk hR hf hF (j:=0) (x:=e.Kids[0]'qom) (by simp)
  have b:=bk hR hf hF (j:=1) (x:=e.Kids[1]'qom) (by simp)
  have hN:exN (e.Kids[0]'qom)+exN (e.Kids[1]'qom)+1=exN e:=by obtain⟨x,y,hK'⟩:=gB hK;rw[gC hK'];simp only[hK',qzy,qzE]
  have h2:=a.two b qom
  rw[cp] at h2
  obtain⟨q0,a1,a2,a3,_⟩:=bP hR hf (j:=0) (by rw[hK];decide)
  obtain⟨q1,b1,b2,b3,_⟩:=bP hR hf (j:=1) (by rw[hK];decide)
  rw[if_neg qom,if_neg qom,if_neg qom,if_pos hk']
  rw[ac qom,a2]
  simp only[qzb]
  rw[ac qom,ac qom,qzd,a3]
  simp only[qzb]
  rw[ac qom,b2]
  simp only[qzb]
  rw[ac qom,ac qom,qzd,b3]
  simp only[qzb]
  rw[(xm k hk g.Mode n.Pair _ _ 40 (ap found n 1).length qom qom qom S1 a.2.1 b.2.1 qom (qzi _)).1]
  simp only[qzb]
  rw[ac qom]
  have hfd:aw g.Mode g.Seen t (some x.Sym) found n=(⟨n.Kind,n.Sym,n.N,n.Kids,⟨(kv g.Mode n.Pair.Left (ap found n 0) (ap found n 1)).1,n.Pair.Right⟩,n.Span,n.Due,n.Many⟩,(kv g.Mode n.Pair.Left (ap found n 0) (ap found n 1)).2):=by unfold aw;rw[if_neg qom,if_neg qom,if_neg qom,if_pos hk']
  rw[hfd] at hsm
  simp only[np]
  rw[W _ hsm]
  exact fin _ _ hfd rfl _ rfl
 ·have a:=bk hR hf hF (j:=0) (x:=e.Kids[0]'qom) (by simp)
  have b:=bk hR hf hF (j:=1) (x:=e.Kids[1]'qom) (by simp)
  have c:=bk hR hf hF (j:=2) (x:=e.Kids[2]'qom) (by simp)
  have hN:exN (e.Kids[0]'qom)+exN (e.Kids[1]'qom)+exN (e.Kids[2]'qom)+1=exN e:=by obtain⟨x,y,z,hK'⟩:=iQ hK;rw[iR hK'];simp only[hK',qzy,qzE]
  have:=ft (e.Kids[1]'qom)
  have:=ft (e.Kids[2]'qom)
  have h2:=a.two c qom
  have h3:=b.small qom
  rw[cp] at h2
  obtain⟨q0,a1,a2,a3,_⟩:=bP hR hf (j:=0) (by rw[hK];decide)
  obtain⟨q1,b1,b2,b3,_⟩:=bP hR hf (j:=1) (by rw[hK];decide)
  obtain⟨q2,c1,c2,c3,_⟩:=bP hR hf (j:=2) (by rw[hK];decide)
  rw[if_neg qom,if_neg qom,if_neg qom,if_neg qom,if_pos hk']
  rw[ac qom,a2]
  simp only[qzb]
  rw[ac qom,ac qom,qzd,a3]
  simp only[qzb]
  rw[ac qom,b2]
  simp only[qzb]
  rw[ac qom,ac qom,qzd,b3]
  simp only[qzb]
  rw[ac qom,c2]
  simp only[qzb]
  rw[ac qom,ac qom,qzd,c3]
  simp only[qzb]
  rw[(yd k hk g.Mode n.Span _ _ _ 40 (ap found n 2).length qom qom qom S3 S4 a.2.1 b.2.1 c.2.1 qom qom (qzi _)).1]
  simp only[qzb]
  rw[ac qom]
  have hfd:aw g.Mode g.Seen t (some x.Sym) found n=(⟨n.Kind,n.Sym,n.N,n.Kids,n.Pair,⟨(gb g.Mode n.Span.Left n.Span.Mid (ap found n 0) (ap found n 1) (ap found n 2)).1,(gb g.Mode n.Span.Left n.Span.Mid (ap found n 0) (ap found n 1) (ap found n 2)).2.1⟩,n.Due,n.Many⟩,(gb g.Mode n.Span.Left n.Span.Mid (ap found n 0) (ap found n 1) (ap found n 2)).2.2):=by unfold aw;rw[if_neg qom,if_neg qom,if_neg qom,if_neg qom,if_pos hk']
  rw[hfd] at hsm
  simp only[np]
  rw[W _ hsm]
  exact fin _ _ hfd rfl _ rfl
 ·have a:=bk hR hf hF (j:=0) (x:=e.Kids[0]'qom) (by simp)
  have b:=bk hR hf hF (j:=1) (x:=e.Kids[1]'qom) (by simp)
  have c:=bk hR hf hF (j:=2) (x:=e.Kids[2]'qom) (by simp)
  have hN:exN (e.Kids[0]'qom)+exN (e.Kids[1]'qom)+exN (e.Kids[2]'qom)+1=exN e:=by obtain⟨x,y,z,hK'⟩:=iQ hK;rw[iR hK'];simp only[hK',qzy,qzE]
  have:=ft (e.Kids[1]'qom)
  have:=ft (e.Kids[2]'qom)
  have h2:=a.two b qom
  have h3:=c.small qom
  rw[cp] at h2
  obtain⟨q0,a1,a2,a3,_⟩:=bP hR hf (j:=0) (by rw[hK];decide)
  obtain⟨q1,b1,b2,b3,_⟩:=bP hR hf (j:=1) (by rw[hK];decide)
  obtain⟨q2,c1,c2,c3,_⟩:=bP hR hf (j:=2) (by rw[hK];decide)
  rw[if_neg qom,if_neg qom,if_neg qom,if_neg qom,if_neg qom,if_pos hk']
  rw[ac qom,a2]
  simp only[qzb]
  rw[ac qom,ac qom,qzd,a3]
  simp only[qzb]
  rw[ac qom,b2]
  simp only[qzb]
  rw[ac qom,ac qom,qzd,b3]
  simp only[qzb]
  rw[ac qom,c2]
  simp only[qzb]
  rw[ac qom,ac qom,qzd,c3]
  simp only[qzb]
  rw[(vx k hk g.Mode n.Span _ _ _ 40 (ap found n 1).length qom qom qom S3 S4 a.2.1 b.2.1 c.2.1 qom (qzi _) qom).1]
  simp only[qzb]
  rw[ac qom]
  have hfd:aw g.Mode g.Seen t (some x.Sym) found n=(⟨n.Kind,n.Sym,n.N,n.Kids,n.Pair,⟨(cF g.Mode n.Span.Left n.Span.Mid (ap found n 0) (ap found n 1) (ap found n 2)).1,(cF g.Mode n.Span.Left n.Span.Mid (ap found n 0) (ap found n 1) (ap found n 2)).2.1⟩,n.Due,n.Many⟩,(cF g.Mode n.Span.Left n.Span.Mid (ap found n 0) (ap found n 1) (ap found n 2)).2.2):=by unfold aw;rw[if_neg qom,if_neg qom,if_neg qom,if_neg qom,if_neg qom,if_pos hk']
  rw[hfd] at hsm
  simp only[np]
  rw[W _ hsm]
  exact fin _ _ hfd rfl _ rfl
 ·have a:=bk hR hf hF (j:=0) (x:=e.Kids[0]'qom) (by simp)
  have hN:exN (e.Kids[0]'qom)+1=exN e:=by obtain⟨x,hK'⟩:=tP hK.1;rw[ua hK'];simp only[hK',qzy]
  have hsa:=a.small qom
  obtain⟨q0,a1,a2,a3,_⟩:=bP hR hf (j:=0) (by rw[hK.1];decide)
  have hd:=S5.filter (fun o=> !(o.To==t))
  have:=S5.2.2
  rw[if_neg qom,if_neg qom,if_neg qom,if_neg qom,if_neg qom,if_neg qom,wv k hk _ _ qom]
  simp only[qzb]
  have hth:aX.f (fun y0=>eh.f y0 t) k n.Due=some (n.Due.filter fun o=> !(o.To==t)):=oa k hk _ _ _ qom (fun x hx=>rfl)
  rw[hth]
  simp only[qzb]
  rw[ac qom,a2]
  simp only[qzb]
  rw[ac qom,ac qom,qzd,a3]
  simp only[qzb]
  have hl2:=qw k hk (ap found n 0) ns i 40 (jz n (n.Due.filter fun o=> !(o.To==t))) qom qom hd a.2.1 (fun o ho=>by have:=a.2.2.2 o ho;have h7:=hR.2.2.1;have hh:=hK.2;show -100000≤o.To+n.N∧o.To+n.N≤200000;omega)
  simp only[jz] at hl2
  rw[hl2]
  simp only[qzb]
  rw[ac qom,rY qom]
  simp only[qzb,np]
  have hfd:aw g.Mode g.Seen t (some x.Sym) found n=(⟨n.Kind,n.Sym,n.N,n.Kids,n.Pair,n.Span,Bo t n.N n.Due (ap found n 0),n.Many⟩,atM n.Due t):=by unfold aw;rw[if_neg qom,if_neg qom,if_neg qom,if_neg qom,if_neg qom,if_neg qom]
  rw[hfd] at hsm
  show(if full=true then am.l1 k g t x N (ns.set i ⟨n.Kind,n.Sym,n.N,n.Kids,n.Pair,n.Span,_,IntKind.wrap .i64 (n.Many+((atM n.Due t).length:Int))⟩) true _ _ else am.l1 k g t x N (ns.set i ⟨n.Kind,n.Sym,n.N,n.Kids,n.Pair,n.Span,_,IntKind.wrap .i64 (n.Many+((atM n.Due t).length:Int))⟩) (decide (40<IntKind.wrap .i64 (n.Many+((atM n.Due t).length:Int)))) _ _)=_
  rw[W _ hsm]
  exact fin _ _ hfd rfl _ rfl
theorem EW {mode seen t:Int} {ev:Option Int} {f g:List (List GOcc)} {n:GNode} (h0:n.Kind=1∨ap f n 0=ap g n 0) (h1:n.Kind=1∨n.Kind=7∨ap f n 1=ap g n 1) (h2:(n.Kind≠5∧n.Kind≠6)∨ap f n 2=ap g n 2)
  (hk:1≤n.Kind∧n.Kind≤7):aw mode seen t ev f n=aw mode seen t ev g n:=by
 unfold aw
 by_cases k1:n.Kind=1
 ·rw[if_pos k1,if_pos k1]
 have e0:ap f n 0=ap g n 0:=h0.resolve_left k1
 rw[if_neg k1,if_neg k1,e0]
 by_cases k7:n.Kind=7
 ·rw[if_neg qom,if_neg qom,if_neg qom,if_neg qom,if_neg qom,if_neg qom,if_neg qom,if_neg qom,if_neg qom,if_neg qom]
 have e1:ap f n 1=ap g n 1:=(h1.resolve_left k1).resolve_left k7
 rw[e1]
 by_cases k5:n.Kind=5∨n.Kind=6
 ·have e2:ap f n 2=ap g n 2:=h2.resolve_left qom
  rw[e2]
 ·rw[if_neg (show ¬n.Kind=5 by omega),if_neg (show ¬n.Kind=5 by omega),if_neg (show ¬n.Kind=6 by omega),if_neg (show ¬n.Kind=6 by omega)]
theorem Am {e:GEx} (hx:gO e) {n:GNode} {es:List GEx} {i:Nat} (hR:lK es i n e):1≤n.Kind∧n.Kind≤7∧(n.Kind=1∨0<e.Kids.length)∧(n.Kind=1∨n.Kind=7∨1<e.Kids.length)∧((n.Kind≠5∧n.Kind≠6)∨2<e.Kids.length):=by
 rcases gZ (cT hx.1).1 with⟨hk,hl⟩|⟨hk,hl⟩|⟨hk,hl⟩|⟨hk,hl⟩|⟨hk,hl⟩|⟨hk,hl⟩|⟨hk,hl⟩ <;> rw[←hR.1] at hk <;> omega
theorem qG {es:List GEx} {i:Nat} {n:GNode} {e:GEx} {found:List (List GOcc)} (h:lK es i n e) (hi:i≤found.length) {j:Nat} (hj:j<e.Kids.length):ap (found.take i) n j=ap found n j:=by
 obtain⟨q,h1,h2,h3⟩:=h.2.2.2.2 j hj
 unfold ap
 have e0:n.Kids.getD j 0=(q:Int):=by rw[qzt,h2];rfl
 rw[e0,qzd]
 rw[qzt,qzt,List.getElem?_take_of_lt h1]
theorem E4 {mode seen t:Int} {ev:Option Int} {es:List GEx} {i:Nat} {n:GNode} {e:GEx} {found:List (List GOcc)} (hx:gO e) (h:lK es i n e) (hi:i≤found.length):aw mode seen t ev (found.take i) n=aw mode seen t ev found n:=by
 obtain⟨a,b,c,d,f⟩:=Am hx h
 exact EW (c.imp id fun q=>qG h hi q) (d.imp id fun q=>q.imp id fun q=>qG h hi q) (f.imp id fun q=>qG h hi q) ⟨a,b⟩
/-- the parts up to a place -/
def fx (mode seen t:Int) (ev:Option Int) (ns:List GNode) (i:Nat):List GNode×List (List GOcc):=(ns.take i).foldl (nR mode seen t ev) ([],[])
theorem lD {mode seen t:Int} {ev:Option Int} {ns:List GNode} {i:Nat} (h:i<ns.length):fx mode seen t ev ns (i+1)=nR mode seen t ev (fx mode seen t ev ns i) ns[i]:=by
 unfold fx
 rw[ET ns i h,List.foldl_append];rfl
theorem oL (mode seen t:Int) (ev:Option Int) (ns:List GNode):fx mode seen t ev ns ns.length=ax mode seen t ev ns:=by
 unfold fx ax;rw[List.take_length]
theorem j9 {mode seen t:Int} {ev:Option Int} {ns:List GNode}:∀{i:Nat},i≤ns.length→(fx mode seen t ev ns i).1.length=i∧(fx mode seen t ev ns i).2.length=i
 |0,_=>by simp[fx]
 |i+1,h=>by
  have:=j9 (mode:=mode) (seen:=seen) (t:=t) (ev:=ev) (ns:=ns) (i:=i) qom
  rw[lD qom]
  simp[nR,this.1,this.2]
theorem za {mode seen t:Int} {ev:Option Int} {ns:List GNode} (j:Nat):∀(d:Nat),j+d≤ns.length→(fx mode seen t ev ns (j+d)).1.take j=(fx mode seen t ev ns j).1∧(fx mode seen t ev ns (j+d)).2.take j=(fx mode seen t ev ns j).2
 |0,h=>by
  have:=j9 (mode:=mode) (seen:=seen) (t:=t) (ev:=ev) (ns:=ns) (i:=j) qom
  exact⟨qzD (by rw[Nat.add_zero];omega),qzD (by rw[Nat.add_zero];omega)⟩
 |d+1,h=>by
  have ih:=za (mode:=mode) (seen:=seen) (t:=t) (ev:=ev) (ns:=ns) j d qom
  have hl:=j9 (mode:=mode) (seen:=seen) (t:=t) (ev:=ev) (ns:=ns) (i:=j+d) qom
  rw[show j+(d+1)=j+d+1 by omega,lD qom]
  simp only[nR]
  rw[List.take_append_of_le_length qom,List.take_append_of_le_length qom]
  exact ih
theorem AL {mode seen t:Int} {ev:Option Int} {ns:List GNode} {j:Nat} (h:j≤ns.length):(ax mode seen t ev ns).1.take j=(fx mode seen t ev ns j).1∧(ax mode seen t ev ns).2.take j=(fx mode seen t ev ns j).2:=by
 have:=za (mode:=mode) (seen:=seen) (t:=t) (ev:=ev) (ns:=ns) j (ns.length-j) qom
 rw[show j+(ns.length-j)=ns.length by omega,oL] at this
 exact this
theorem gx (mode seen t:Int) (ev:Option Int) (ns:List GNode):(ax mode seen t ev ns).1.length=ns.length∧(ax mode seen t ev ns).2.length=ns.length:=by
 rw[←oL];exact j9 (qzi _)
/-- every part, out of all that was found -/
theorem nf {mode seen t:Int} {ev:Option Int} {es:List GEx} {ns:List GNode} (hR:Rep es ns) {i:Nat} {n:GNode} (hn:ns[i]? =some n) :
  (ax mode seen t ev ns).1[i]? =some (eP (aw mode seen t ev (ax mode seen t ev ns).2 n))∧(ax mode seen t ev ns).2[i]? =some (aw mode seen t ev (ax mode seen t ev ns).2 n).2:=by
 have hlt:i<ns.length:=(List.getElem?_eq_some_iff.1 hn).1
 have hni:ns[i]=n:=(List.getElem?_eq_some_iff.1 hn).2
 obtain⟨e,he,hx,hr⟩:=hR.2 i n hn
 have p1:=AL (mode:=mode) (seen:=seen) (t:=t) (ev:=ev) (ns:=ns) (j:=i+1) qom
 have p0:=AL (mode:=mode) (seen:=seen) (t:=t) (ev:=ev) (ns:=ns) (j:=i) qom
 have hl:=j9 (mode:=mode) (seen:=seen) (t:=t) (ev:=ev) (ns:=ns) (i:=i) qom
 have pl:=gx mode seen t ev ns
 have hf:aw mode seen t ev (fx mode seen t ev ns i).2 n=aw mode seen t ev (ax mode seen t ev ns).2 n:=by
  rw[←p0.2];exact E4 hx hr qom
 rw[lD hlt] at p1
 simp only[nR] at p1
 rw[hni,hf] at p1
 constructor
 ·have:=congrArg (fun l=>l[i]?) p1.1
  simp only[List.getElem?_take_of_lt (Nat.lt_succ_self i)] at this
  rw[this,qzu qom,hl.1,qzV];rfl
 ·have:=congrArg (fun l=>l[i]?) p1.2
  simp only[List.getElem?_take_of_lt (Nat.lt_succ_self i)] at this
  rw[this,qzu qom,hl.2,qzV];rfl
/-- what holds of all parts ahead of a point in time -/
def mK (t:Int) (es:List GEx) (ns:List GNode):Prop:=Rep es ns∧ns.length≤12∧∀n∈ns,lB t n
theorem nH {mode seen t:Int} {ev:Option Int} {es:List GEx} {ns:List GNode} (hR:mK t es ns) (hs:0≤seen∧seen≤23):∀{i:Nat},i≤ns.length→jw t es (fx mode seen t ev ns i).2
 |0,_=>fun j l h=>by simp[fx] at h
 |i+1,h=>by
  have ih:=nH (mode:=mode) (ev:=ev) hR hs (i:=i) qom
  have hl:=j9 (mode:=mode) (seen:=seen) (t:=t) (ev:=ev) (ns:=ns) (i:=i) qom
  rw[lD qom]
  obtain⟨e,he,hx,hr⟩:=hR.1.2 i ns[i] (qzc qom)
  intro j l hj
  simp only[nR] at hj
  rcases qzM j i with h1|h1
  ·rw[qzF qom] at hj
   exact ih j l hj
  ·rw[qzu qom] at hj
   have:j=i:=by
    have:=(List.getElem?_eq_some_iff.1 hj).1
    simp at this;omega
   subst this
   rw[hl.2,qzV,qzs] at hj
   cases hj
   exact⟨e,he,tT hx hr (hR.2.2 _ (qze _)) hl.2 ih hs⟩
theorem un {mode seen t:Int} {ev:Option Int} {es:List GEx} {ns:List GNode} (hR:mK t es ns) (hs:0≤seen∧seen≤23):jw t es (ax mode seen t ev ns).2:=by
 rw[←oL];exact nH hR hs (qzi _)
def jT (l:List GOcc):Prop:=Asc l∧Ids l
theorem jT.ok {l:List GOcc} (h:jT l):Ok l.length l:=⟨h.1,h.2,qzi _⟩
theorem Ok.tidy {m:Nat} {l:List GOcc} (h:Ok m l):jT l:=⟨h.1,h.2.1⟩
theorem uP {mode:Int} {p:GOcc→GOcc→Bool}:∀(r:List GOcc) (s:List GOcc×List GOcc),(r.foldl (fy mode p) s).1.length≤s.1.length
 |[],_=>qzi _
 |o::r,s=>by
  rw[ox]
  exact qzz (uP r _) (vI _ _)
theorem sC {mode:Int} {p:GOcc→GOcc→Bool}:∀(r:List GOcc) (s:List GOcc×List GOcc),jT s.1→jT (r.foldl (fy mode p) s).1
 |[],_,h=>h
 |o::r,s,h=>by
  rw[ox]
  exact sC r _ (Ok.tidy ((h.ok).rem (gone:=_)))
theorem jT.merge {l m:List GOcc} (h:jT l) (hm:jT m):jT (cM l m):=⟨gU h.1,jP h.2 hm.2⟩
theorem FO.tidy {t:Int} {s:Nat} {l:List GOcc} (h:FO t s l):jT l:=⟨h.1,h.2.1⟩
theorem Ff {n t:Int} (hn:1≤n∧n≤20):∀(kid acc:List GOcc),(∀o∈kid,o.To=t)→(∀o∈acc,t<o.To∧o.To≤t+20)→∀o∈kid.foldl (fun s o=>cJ s (jC n o)) acc,t<o.To∧o.To≤t+20
 |[],_,_,h=>h
 |x::kid,acc,hk,h=>by
  rw[ox]
  refine Ff hn kid _ (fun o ho=>hk o (by simp[ho])) (fun o ho=>?_)
  rcases gI.1 ho with h1|rfl
  ·exact h o h1
  ·have:=hk x (by simp);show t<x.To+n∧x.To+n≤t+20;omega
/-- how much a part's own lists may grow by its j-th operand -/
def kl (e:GEx) (found:List (List GOcc)) (n:GNode) (j:Nat):Nat:=if j<e.Kids.length then(ap found n j).length else 0
def Ds (t:Int) (n:GNode):Prop:=(jT n.Pair.Left∧jT n.Pair.Right∧jT n.Span.Left∧jT n.Span.Mid∧jT n.Due)∧
 All (fun o=>o.To≤t) n.Pair.Left∧All (fun o=>o.To≤t) n.Pair.Right∧All (fun o=>o.To≤t) n.Span.Left∧All (fun o=>o.To≤t) n.Span.Mid
def Hi (e:GEx) (found:List (List GOcc)) (n r:GNode):Prop:=r.Pair.Left.length≤n.Pair.Left.length+kl e found n 0∧r.Pair.Right.length≤n.Pair.Right.length+kl e found n 1∧
 r.Span.Left.length≤n.Span.Left.length+kl e found n 0∧r.Span.Mid.length≤n.Span.Mid.length+(if n.Kind=5 then kl e found n 1 else kl e found n 2)∧r.Due.length≤n.Due.length+kl e found n 0
def Fx (n r:GNode):Prop:=r.Kind=n.Kind∧r.Sym=n.Sym∧r.N=n.N∧r.Kids=n.Kids∧r.Many=n.Many
theorem kg {mode seen t:Int} {ev:Option Int} {found:List (List GOcc)} {n:GNode}:Fx n (aw mode seen t ev found n).1:=by
 unfold aw Fx
 repeat' split
 all_goals exact⟨rfl,rfl,rfl,rfl,rfl⟩
theorem ED {t seen mode:Int} {ev:Option Int} {es:List GEx} {i:Nat} {n:GNode} {e:GEx} {found:List (List GOcc)} (hx:gO e) (hR:lK es i n e) (hS:lB t n) (hi:i≤found.length) (hF:jw t es (found.take i))
  (hd:∀o∈n.Due,t≤o.To∧o.To≤t+20) :
  Ds t (aw mode seen t ev found n).1∧Hi e found n (aw mode seen t ev found n).1∧∀o∈(aw mode seen t ev found n).1.Due,(t<o.To∨((aw mode seen t ev found n).1.Due=n.Due∧n.Kind≠7))∧o.To≤t+20:=by
 obtain⟨S1,S2,S3,S4,S5,_,_,T1,T2,T3,T4⟩:=hS
 have h12:=hx.2
 have hl':(found.take i).length=i:=by rw[qzZ];omega
 have base:Ds t n:=⟨⟨S1.tidy,S2.tidy,S3.tidy,S4.tidy,S5.tidy⟩,T1,T2,T3,T4⟩
 have gr:Hi e found n n:=⟨by omega,by omega,by omega,by omega,by omega⟩
 have du:n.Kind≠7→∀o∈n.Due,(t<o.To∨(n.Due=n.Due∧n.Kind≠7))∧o.To≤t+20:=fun h7 o ho=>⟨.inr ⟨rfl,h7⟩,(hd o ho).2⟩
 have KF:∀j (h:j<e.Kids.length),FO t (exN e.Kids[j]) (ap found n j):=fun j h=>by
  have:=bk hR hl' hF (j:=j) (x:=e.Kids[j]) (by simp)
  rwa [qG hR hi h] at this
 unfold aw
 rcases gZ (cT hx.1).1 with⟨hk,hl⟩|⟨hk,hl⟩|⟨hk,hl⟩|⟨hk,hl⟩|⟨hk,hl⟩|⟨hk,hl⟩|⟨hk,hl⟩ <;> rw[←hR.1] at hk
 ·rw[if_pos hk];exact⟨base,gr,du qom⟩
 ·rw[if_neg qom,if_pos hk];exact⟨base,gr,du qom⟩
 ·have a:=KF 0 qom
  have b:=KF 1 qom
  have hN:exN (e.Kids[0]'qom)+exN (e.Kids[1]'qom)+1=exN e:=by obtain⟨x,y,hK'⟩:=gB hl;rw[gC hK'];simp only[hK',qzy,qzE]
  have A:=De (mode:=mode) (S1.tidy.ok) (S2.tidy.ok) a.2.1 b.2.1 (qzi _) (qzi _)
  have B:=FQ (mode:=mode) T1 T2 a.2.2.2 b.2.2.2
  have k0:kl e found n 0=(ap found n 0).length:=if_pos qom
  have k1:kl e found n 1=(ap found n 1).length:=if_pos qom
  rw[if_neg qom,if_neg qom,if_pos hk]
  refine⟨⟨⟨A.1.tidy,A.2.1.tidy,S3.tidy,S4.tidy,S5.tidy⟩,B.1,B.2.1,T3,T4⟩,⟨?_,?_,gr.2.2.1,gr.2.2.2.1,gr.2.2.2.2⟩,du qom⟩
  ·rw[k0];exact A.1.2.2
  ·rw[k1];exact A.2.1.2.2
 ·have a:=KF 0 qom
  have b:=KF 1 qom
  have k0:kl e found n 0=(ap found n 0).length:=if_pos qom
  have B:=qv (mode:=mode) (p:=before) (ap found n 1) (n.Pair.Left,[]) b.2.2.2 T1 (by simp)
  have C:=sC (mode:=mode) (p:=before) (ap found n 1) (n.Pair.Left,[]) S1.tidy
  rw[if_neg qom,if_neg qom,if_neg qom,if_pos hk]
  refine⟨⟨⟨C.merge a.tidy,S2.tidy,S3.tidy,S4.tidy,S5.tidy⟩,oF B.1 (fun o ho=>by rw[a.2.2.2 o ho];omega),T2,T3,T4⟩,⟨?_,gr.2.1,gr.2.2.1,gr.2.2.2.1,gr.2.2.2.2⟩,du qom⟩
  rw[k0]
  exact qzz (db _ _) (Nat.add_le_add_right (uP _ _) _)
 ·have a:=KF 0 qom
  have b:=KF 1 qom
  have c:=KF 2 qom
  have k0:kl e found n 0=(ap found n 0).length:=if_pos qom
  have k1:kl e found n 1=(ap found n 1).length:=if_pos qom
  have B:=qv (mode:=mode) (p:=ed n.Span.Mid) (ap found n 2) (n.Span.Left,[]) c.2.2.2 T3 (by simp)
  have C:=sC (mode:=mode) (p:=ed n.Span.Mid) (ap found n 2) (n.Span.Left,[]) S3.tidy
  rw[if_neg qom,if_neg qom,if_neg qom,if_neg qom,if_pos hk]
  refine⟨⟨⟨S1.tidy,S2.tidy,C.merge a.tidy,S4.tidy.merge b.tidy,S5.tidy⟩,T1,T2,oF B.1 (fun o ho=>by rw[a.2.2.2 o ho];omega),oF T4 (fun o ho=>by rw[b.2.2.2 o ho];omega)⟩,⟨gr.1,gr.2.1,?_,?_,gr.2.2.2.2⟩,du qom⟩
  ·rw[k0];exact qzz (db _ _) (Nat.add_le_add_right (uP _ _) _)
  ·rw[if_pos hk,k1];exact db _ _
 ·have a:=KF 0 qom
  have c:=KF 2 qom
  have k0:kl e found n 0=(ap found n 0).length:=if_pos qom
  have k2:kl e found n 2=(ap found n 2).length:=if_pos qom
  rw[if_neg qom,if_neg qom,if_neg qom,if_neg qom,if_neg qom,if_pos hk]
  refine⟨⟨⟨S1.tidy,S2.tidy,S3.tidy.merge a.tidy,S4.tidy.merge c.tidy,S5.tidy⟩,T1,T2,oF T3 (fun o ho=>by rw[a.2.2.2 o ho];omega),oF T4 (fun o ho=>by rw[c.2.2.2 o ho];omega)⟩,⟨gr.1,gr.2.1,?_,?_,gr.2.2.2.2⟩,du qom⟩
  ·rw[k0];exact db _ _
  ·rw[if_neg qom,k2];exact db _ _
 ·have a:=KF 0 qom
  have k0:kl e found n 0=(ap found n 0).length:=if_pos qom
  have hN:=hR.2.2.1
  rw[if_neg qom,if_neg qom,if_neg qom,if_neg qom,if_neg qom,if_neg qom]
  have D:=Fd (n:=n.N) (ap found n 0) _ n.Due.length ((S5.tidy.ok).filter (fun o=> !(o.To==t))) a.2.1
  have E:=Ff (n:=n.N) (t:=t) qom (ap found n 0) (n.Due.filter fun o=> !(o.To==t)) a.2.2.2 (fun o ho=>by
   obtain⟨h1,h2⟩:=List.mem_filter.1 ho
   have:=hd o h1
   simp only[tg,beq_eq_false_iff_ne,ne_eq] at h2
   omega)
  refine⟨⟨⟨S1.tidy,S2.tidy,S3.tidy,S4.tidy,D.tidy⟩,T1,T2,T3,T4⟩,⟨gr.1,gr.2.1,gr.2.2.1,gr.2.2.2.1,?_⟩,fun o ho=>⟨.inl (E o ho).1,(E o ho).2⟩⟩
  rw[k0];exact D.2.2
def jI (ns:List GNode) (n:GNode) (j:Nat):Int:=((ns[(n.Kids.getD j 0).toNat]?).map (·.Many)).getD 0
def HM (T:Int) (ns:List GNode) (n:GNode):Prop:=Ds T n∧(0≤n.Many∧n.Many≤40)∧(n.Kind≠7→n.Due=[])∧(∀o∈n.Due,T<o.To∧o.To≤T+20)∧
 ((n.Pair.Left.length:Int)≤jI ns n 0∧(n.Pair.Right.length:Int)≤jI ns n 1∧(n.Span.Left.length:Int)≤jI ns n 0∧(n.Span.Mid.length:Int)≤(if n.Kind=5 then jI ns n 1 else jI ns n 2)∧(n.Due.length:Int)≤jI ns n 0)
def gj (T:Int) (es:List GEx) (ns:List GNode):Prop:=Rep es ns∧(1≤ns.length∧ns.length≤12)∧∀n∈ns,HM T ns n
theorem lq {T:Int} {es:List GEx} {ns:List GNode} (h:gj T es ns) (n:GNode) (j:Nat):0≤jI ns n j∧jI ns n j≤40:=by
 unfold jI
 cases hq:ns[(n.Kids.getD j 0).toNat]? with
 |none=>simp
 |some m=>
  have:=(h.2.2 m (qzI hq)).2.1
  simpa using this
theorem All.weak {Q R:GOcc→Prop} {l:List GOcc} (h:All Q l) (f:∀o,Q o→R o):All R l:=fun o ho=>f o (h o ho)
theorem gj.ready {T t:Int} {es:List GEx} {ns:List GNode} (h:gj T es ns) (ht:T≤t):mK t es ns:=by
 refine⟨h.1,h.2.1.2,fun n hn=>?_⟩
 obtain⟨⟨⟨g1,g2,g3,g4,g5⟩,t1,t2,t3,t4⟩,hm,_,_,l1,l2,l3,l4,l5⟩:=h.2.2 n hn
 have q0:=lq h n 0
 have q1:=lq h n 1
 have q2:=lq h n 2
 refine⟨g1.ok.mono qom,g2.ok.mono qom,g3.ok.mono qom,g4.ok.mono (by split at l4 <;> omega),g5.ok.mono qom,hm.1,hm.2,?_⟩
 exact⟨t1.weak fun o ho=>Int.le_trans ho ht,t2.weak fun o ho=>Int.le_trans ho ht,t3.weak fun o ho=>Int.le_trans ho ht,t4.weak fun o ho=>Int.le_trans ho ht⟩
theorem AY {ns:List GNode} (h:dy ns=false):∀n∈ns,n.Many≤40:=fun n hn=>by
 unfold dy at h
 rw[List.any_eq_false] at h
 have:=h n hn
 simpa using this
theorem Dm {mode seen t:Int} {ev:Option Int} {es:List GEx} {ns:List GNode} (hR:Rep es ns) {i:Nat} {n r:GNode} {e:GEx} (hn:ns[i]? =some n) (hr:lK es i n e) (hk:r.Kids=n.Kids) (j:Nat) :
  jI ns n j+(kl e (ax mode seen t ev ns).2 n j:Nat)≤jI (ax mode seen t ev ns).1 r j:=by
 have hlt:i<ns.length:=(List.getElem?_eq_some_iff.1 hn).1
 unfold jI
 rw[hk]
 cases hq:ns[(n.Kids.getD j 0).toNat]? with
 |some m=>
  obtain⟨p1,p2⟩:=nf (mode:=mode) (seen:=seen) (t:=t) (ev:=ev) hR hq
  rw[p1]
  simp only[qzL,vo]
  have km:=(kg (mode:=mode) (seen:=seen) (t:=t) (ev:=ev) (found:=(ax mode seen t ev ns).2) (n:=m)).2.2.2.2
  show m.Many+_≤(aw mode seen t ev _ m).1.Many+_
  rw[km]
  unfold kl
  split
  ·rename_i hj
   have:ap (ax mode seen t ev ns).2 n j=(aw mode seen t ev (ax mode seen t ev ns).2 m).2:=by
    unfold ap
    rw[qzt,p2];rfl
   rw[this];exact ml _
  ·omega
 |none=>
  have pl:=gx mode seen t ev ns
  have hge:ns.length≤(n.Kids.getD j 0).toNat:=List.getElem?_eq_none_iff.1 hq
  rw[qzR qom]
  simp only[Option.map_none,Option.getD_none]
  unfold kl
  split
  ·rename_i hj
   obtain⟨q,h1,h2,_⟩:=hr.2.2.2.2 j hj
   have:n.Kids.getD j 0=(q:Int):=by rw[qzt,h2];rfl
   rw[this] at hge
   omega
  ·omega
/-- one more point in time, nothing due before it -/
theorem mV {T t:Int} {mode seen:Int} {ev:Option Int} {es:List GEx} {ns:List GNode} (h:gj T es ns) (ht:T≤t) (hd:∀n∈ns,∀o∈n.Due,t≤o.To) (hs:0≤seen∧seen≤23) (hfull:dy (ax mode seen t ev ns).1=false) :
  gj t es (ax mode seen t ev ns).1:=by
 have hR:=h.ready ht
 have pl:=gx mode seen t ev ns
 have pf:=un (mode:=mode) (ev:=ev) hR hs
 refine⟨⟨by rw[pl.1];exact h.1.1,fun i r hr=>?_⟩,by rw[pl.1];exact h.2.1,fun r hr=>?_⟩
 ·have hi:i<ns.length:=by have:=(List.getElem?_eq_some_iff.1 hr).1;omega
  obtain⟨e,he,hx,hn⟩:=h.1.2 i ns[i] (qzc hi)
  rw[(nf h.1 (qzc hi)).1] at hr
  cases hr
  obtain⟨k1,k2,k3,k4,_⟩:=kg (mode:=mode) (seen:=seen) (t:=t) (ev:=ev) (found:=(ax mode seen t ev ns).2) (n:=ns[i])
  refine⟨e,he,hx,k1.trans hn.1,k2.trans hn.2.1,k3.trans hn.2.2.1,?_,?_⟩
  ·show((aw mode seen t ev (ax mode seen t ev ns).2 ns[i]).1).Kids.length=_;rw[k4];exact hn.2.2.2.1
  ·show ∀j,j<e.Kids.length→∃q:Nat,q<i∧((aw mode seen t ev (ax mode seen t ev ns).2 ns[i]).1).Kids[j]? =some (q:Int)∧es[q]? =e.Kids[j]?;rw[k4];exact hn.2.2.2.2
 ·obtain⟨i,hi,hri⟩:=List.mem_iff_getElem.1 hr
  have hi':i<ns.length:=by omega
  obtain⟨e,he,hx,hn⟩:=h.1.2 i ns[i] (qzc hi')
  have hm:ns[i]∈ns:=qze hi'
  have pg:=(nf (mode:=mode) (seen:=seen) (t:=t) (ev:=ev) h.1 (qzc hi')).1
  rw[qzc hi] at pg
  have pg:=(pQ pg).symm.trans hri
  have hno:=AY hfull r hr
  obtain⟨hl,hmany,hdue,hdt,l1,l2,l3,l4,l5⟩:=h.2.2 _ hm
  obtain⟨k1,k2,k3,k4,k5⟩:=kg (mode:=mode) (seen:=seen) (t:=t) (ev:=ev) (found:=(ax mode seen t ev ns).2) (n:=ns[i])
  obtain⟨a,b,c⟩:=ED (mode:=mode) (seen:=seen) (ev:=ev) (found:=(ax mode seen t ev ns).2) hx hn (hR.2.2 _ hm) qom (fun j l hj=>pf j l (by rcases qzM j i with h1|h1;rwa [List.getElem?_take_of_lt h1] at hj;rw[List.getElem?_take_eq_none h1] at hj;cases hj))
   (fun o ho=>⟨hd _ hm o ho,by have:=(hdt o ho).2;omega⟩)
  have K:=fun j=>Dm (mode:=mode) (seen:=seen) (t:=t) (ev:=ev) (r:=r) h.1 (qzc hi') hn (by rw[←pg];exact k4) j
  have K0:=K 0
  have K1:=K 1
  have K2:=K 2
  have hk:r.Kind=ns[i].Kind:=by rw[←pg];exact k1
  have hdu:ns[i].Kind≠7→(aw mode seen t ev (ax mode seen t ev ns).2 ns[i]).1.Due=[]:=fun h7=>by
   cases hc:(aw mode seen t ev (ax mode seen t ev ns).2 ns[i]).1.Due with
   |nil=>rfl
   |cons o l=>
    exfalso
    have e0:ns[i].Due=[]:=hdue h7
    have g5:=b.2.2.2.2
    obtain⟨a2,b2,c2,d2,e2⟩:=Am hx hn
    have hcc:(aw mode seen t ev (ax mode seen t ev ns).2 ns[i]).1.Due=ns[i].Due:=by
     unfold aw
     repeat' split
     all_goals first|rfl|omega
    rw[hcc,e0] at hc;cases hc
  refine⟨?_,⟨?_,hno⟩,?_,?_,?_⟩
  ·rw[←pg];exact a
  ·rw[←pg];show 0≤(aw mode seen t ev _ ns[i]).1.Many+_;rw[k5];omega
  ·intro h7;rw[hk] at h7;rw[←pg];exact hdu h7
  ·rw[←pg]
   intro o ho
   have:=c o ho
   refine⟨this.1.elim id fun q=>?_,this.2⟩
   have hz:o∈(aw mode seen t ev (ax mode seen t ev ns).2 ns[i]).1.Due:=ho
   rw[hdu q.2] at hz;simp at hz
  ·have e1:r.Pair=(aw mode seen t ev (ax mode seen t ev ns).2 ns[i]).1.Pair:=by rw[←pg];rfl
   have e2:r.Span=(aw mode seen t ev (ax mode seen t ev ns).2 ns[i]).1.Span:=by rw[←pg];rfl
   have e3:r.Due=(aw mode seen t ev (ax mode seen t ev ns).2 ns[i]).1.Due:=by rw[←pg];rfl
   obtain⟨b1,b2,b3,b4,b5⟩:=b
   rw[e1,e2,e3,hk]
   refine⟨by omega,by omega,by omega,?_,by omega⟩
   split at l4
   ·rename_i h5;rw[if_pos h5] at b4⊢;omega
   ·rename_i h5;rw[if_neg h5] at b4⊢;omega
end Go.Proofs.YtlbnmldopjadoaaGreat
