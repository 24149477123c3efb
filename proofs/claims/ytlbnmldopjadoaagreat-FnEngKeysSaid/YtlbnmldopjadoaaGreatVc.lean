/- A small evaluator over the code of a program, and that it is sound, third part. -/
import Derived.Test.YtlbnmldopjadoaaGreatVb
import Derived.ChangeArms
import Derived.SizedLaws
set_option linter.unusedSimpArgs false
set_option linter.unusedVariables false
/- A state that says less: slots forgotten, nodes renamed or frozen, nothing taken for a row of the frame's own. -/
namespace Go.Vm

def eC (κ:Key):List (Key×Key)→Option Key
 |[]=>none
 |(x,y)::l=>if κ.1=x.1 then(if κ.2=x.2 then some y else eC κ l) else eC κ l
def isK (x:Option Key) (κ:Key):Bool:=match x with
 |some y=>if y.1=κ.1 then(if y.2=κ.2 then true else false) else false
 |none=>false
def te (κ:Key):List (Key×Key)→Bool
 |[]=>false
 |(_,y)::l=>if isK (some y) κ then true else te κ l
def DN:List (Key×Key)→Bool
 |[]=>true
 |(_,y)::l=>if te y l then false else DN l

def As:Value→Bool
 | .slice none 0 0=>true
 |_=>false
theorem yR {v:Value} (h:As v=true):v= .slice none 0 0:=by
 unfold As at h
 split at h
 ·rfl
 ·cases h
mutual
def kc (ms:List (Key×Key)) (σ τ:St) (x:A):A→Prop
 | .hole=>True
 | .ref κ' g' i' n'=>match x with
  | .ref κ g i n=>isK (eC κ' ms) κ=true∧(lkN σ.heap κ.1 κ.2).gen=g∧(lkN τ.heap κ'.1 κ'.2).gen=g'∧i'=i∧n'=n
  | .lit v=>As v=true∧eC κ' ms=none∧(lkN τ.heap κ'.1 κ'.2).gen=g'∧i'=0∧n'=0
  |_=>False
 | .mptr κ' g' i' o'=>match x with
  | .mptr κ g i o=>isK (eC κ' ms) κ=true∧(lkN σ.heap κ.1 κ.2).gen=g∧(lkN τ.heap κ'.1 κ'.2).gen=g'∧i'=i∧o'=o
  |_=>False
 | .tree rows=>match x with
  | .tree r=>rows=r
  | .lit v=>As v=true∧rows=[]
  | .emp=>rows=[]
  |_=>False
 | .agg ds=>match x with
  | .agg cs=>oj ms σ τ cs ds
  |_=>False
 | .tup ds=>match x with
  | .tup cs=>oj ms σ τ cs ds
  |_=>False
 | .clo g ds=>match x with
  | .clo f cs=>f=g∧oj ms σ τ cs ds
  |_=>False
 | .lit u=>match x with
  | .lit v=>u=v
  |_=>False
 | .emp=>match x with
  | .emp=>True
  |_=>False
 | .iptr s p=>match x with
  | .iptr r o=>s=r∧p=o
  |_=>False
 |_=>False
def oj (ms:List (Key×Key)) (σ τ:St):List A→List A→Prop
 |[],[]=>True
 |c::cs,d::ds=>kc ms σ τ c d∧oj ms σ τ cs ds
 |_,_=>False
end
/-- cells where nil slices are taken for empty rows of one's own -/
inductive fo:List A→List A→Prop
 |nil:fo [] []
 |same (c:A) {cs ds:List A} (h:fo cs ds):fo (c::cs) (c::ds)
 |nilc (k:Nat) {cs ds:List A} (h:fo cs ds):fo (.lit (.slice none 0 0)::cs) (.inl k []::ds)
inductive ma:Rows→Rows→Prop
 |same (r:Rows):ma r r
 |rep (n:Nat) {z z':List A} (h:fo z z'):ma (List.replicate n z) (List.replicate n z')
@[simp] theorem IM (r:Rows):ma r r:=.same r
@[simp] theorem nilRows_rep (n:Nat) {z z':List A} (h:fo z z'):ma (List.replicate n z) (List.replicate n z'):=.rep n h
@[simp] theorem Ir:fo [] []:=.nil
@[simp] theorem H7 (c:A) (cs ds:List A):fo (c::cs) (c::ds)↔fo cs ds:=⟨fun h=>by cases h;assumption,.same c⟩
@[simp] theorem H9 (k:Nat) (cs ds:List A):fo (.lit (.slice none 0 0)::cs) (.inl k []::ds)↔fo cs ds:=⟨fun h=>by cases h;assumption,.nilc k⟩
theorem fo.ok {w:World} {imm:Set} {b:Nat} {cs ds:List A} (h:fo cs ds):ds.length=cs.length∧∀(o:Nat) (S:Set),ai w imm none cs b o S→ai w imm none ds b o S:=by
 induction h with
 |nil=>exact⟨rfl,fun _ _ h=>h⟩
 |same c _ ih=>
  refine⟨by simp[ih.1],fun o S h=>?_⟩
  simp only[ai] at h⊢
  obtain⟨v,S1,S2,h1,h2,h3,h4⟩:=h
  exact⟨v,S1,S2,h1,h2,ih.2 _ _ h3,h4⟩
 |nilc k _ ih=>
  refine⟨by simp[ih.1],fun o S h=>?_⟩
  simp only[ai] at h⊢
  obtain⟨v,S1,S2,h1,h2,h3,h4⟩:=h
  refine⟨v,S1,S2,h1,?_,ih.2 _ _ h3,h4⟩
  simp only[CR] at h2⊢
  subst h2
  exact⟨none,0,by simp,.inl ⟨rfl,rfl,trivial⟩⟩
theorem ma.ok {w:World} {imm:Set} {b:Nat} {rs rs':Rows} (h:ma rs rs'):rs'.length=rs.length∧∀(o k:Nat) (S:Set),aq w imm none rs b o k S→aq w imm none rs' b o k S:=by
 cases h with
 |same=>exact⟨rfl,fun _ _ _ h=>h⟩
 |rep n h=>
  refine⟨by simp,?_⟩
  obtain⟨h1,h2⟩:=h.ok (w:=w) (imm:=imm) (b:=b)
  induction n with
  |zero=>exact fun _ _ _ h=>h
  |succ n ih=>
   intro o k S hr
   simp only[List.replicate_succ,aq] at hr⊢
   obtain⟨S1,S2,g1,g2,g3,g4⟩:=hr
   exact⟨S1,S2,by rw[h1];exact g1,h2 _ _ g2,ih _ _ _ g3,g4⟩
/-- cells that lead to no node -/
def qu:List A→Bool
 |[]=>true
 | .lit _::l| .emp::l| .tree _::l=>qu l
 |_=>false
theorem ai.data {w:World} {imm:Set} {Λ:Lam} {b:Nat}:∀{cs:List A} {o:Nat} {S:Set},qu cs=true→ai w imm (some Λ) cs b o S→ai w imm none cs b o Set.no
 |[],_,_,_,_=>by simp only[ai]
 |c::cs,o,S,hd,h=>by
  simp only[ai] at h⊢
  obtain⟨v,S1,S2,h1,h2,h3,_⟩:=h
  have hc:CR w imm none c v Set.no∧qu cs=true:=by
   cases c <;> simp only[qu] at hd <;> first|(cases hd;done)|(refine⟨?_,hd⟩;simp only[CR] at h2⊢;exact h2)
  exact⟨v,Set.no,Set.no,h1,hc.1,ai.data hc.2 h3,Set.no_le _,Set.no_le _,Set.no_dis _⟩
def qU (ms:List (Key×Key)) (σ τ:St):HN→HN→Prop
 |_,.dead _=>True
 | .box _ cs,.box _ ds=>oj ms σ τ cs ds
 | .arr _ k rows,.arr _ k' rows'=>k'=k∧ma rows rows'
 | .opn _ k rows i row,.opn _ k' rows' i' row'=>k'=k∧rows'=rows∧i'=i∧oj ms σ τ row row'
 | .fbox _ cs,.fbox _ ds=>ds=cs
 | .box _ cs,.fbox _ ds=>ds=cs∧qu cs=true
 | .farr _ k rows,.farr _ k' rows'=>k'=k∧rows'=rows
 | .arr _ k rows,.farr _ k' rows'=>k'=k∧rows'=aA rows
 |_,_=>False
def Dt (ms:List (Key×Key)) (σ τ:St):List (Nat×A)→Prop
 |[]=>True
 |(t,b)::l=>kc ms σ τ (lkS σ.slots t) b∧Dt ms σ τ l
def Dl (ms:List (Key×Key)) (σ τ:St):List (Key×HN)→Prop
 |[]=>True
 |(κ',n)::l=>(match eC κ' ms with
   |some κ=>qU ms σ τ (lkN σ.heap κ.1 κ.2) n
   |none=>match n with
    | .arr _ _ rows=>rows=[]
    | .dead _=>True
    |_=>False)∧Dl ms σ τ l
def Ak (ms:List (Key×Key)) (σ τ:St):Prop:=DN ms=true∧Dt ms σ τ τ.slots∧Dl ms σ τ τ.heap

theorem tV (x:Option Key) (κ:Key):isK x κ=true↔x=some κ:=by
 obtain⟨a,b⟩:=κ
 cases x with
 |none=>simp[isK]
 |some y=>
  obtain⟨c,d⟩:=y
  simp[isK]
theorem oU {κ y:Key}:∀{l:List (Key×Key)},eC κ l=some y→(κ,y)∈l
 |(x,z)::l,h=>by
  obtain⟨a,b⟩:=κ
  obtain⟨c,d⟩:=x
  simp only[eC] at h
  split at h
  ·rename_i h1
   split at h
   ·rename_i h2
    cases h
    rw[h1,h2]
    exact qzx
   ·exact qzv _ (oU h)
  ·exact qzv _ (oU h)
theorem vY (κ:Key):∀l:List (Key×Key),te κ l=true↔∃x,(x,κ)∈l
 |[]=>by simp[te]
 |(x,y)::l=>by
  simp only[te]
  by_cases h:isK (some y) κ=true
  ·rw[if_pos h]
   have:=(tV _ _).1 h
   cases this
   simp only[true_iff]
   exact⟨x,qzx⟩
  ·rw[if_neg h,vY κ l]
   have:y≠κ:=fun e=>h ((tV _ _).2 (by rw[e]))
   constructor
   ·rintro⟨z,hz⟩;exact⟨z,qzv _ hz⟩
   ·rintro⟨z,hz⟩
    rcases qzo.1 hz with e|hz
    ·cases e;exact absurd rfl this
    ·exact⟨z,hz⟩
theorem C9 {y:Key}:∀{l:List (Key×Key)} {x x':Key},DN l=true→(x,y)∈l→(x',y)∈l→x=x'
 |(z,u)::l,x,x',hi,h,h'=>by
  simp only[DN] at hi
  split at hi
  ·cases hi
  ·rename_i hv
   have hno:∀q,(q,u)∉l:=fun q hq=>hv ((vY u l).2 ⟨q,hq⟩)
   rcases qzo.1 h with e|h1
   ·cases e
    rcases qzo.1 h' with e|h2
    ·cases e;rfl
    ·exact absurd h2 (hno x')
   ·rcases qzo.1 h' with e|h2
    ·cases e;exact(hno x h1).elim
    ·exact C9 hi h1 h2

section
variable {w:World} {σ τ:St} {ms:List (Key×Key)} {ρ:Env} {a:Act} {imm:Set} {Λ:Lam} {F:Key→Set}

/-- how the nodes are known after -/
def iJ (ms:List (Key×Key)) (τ:St) (Λ:Lam):Lam:=fun κ'=>match eC κ' ms,lkN τ.heap κ'.1 κ'.2 with
 |_,.dead g=>⟨g,.gone,0,0⟩
 |some κ,n=>{ Λ κ with gen:=n.gen }
 |none,.arr g k _=>⟨g,.nil,k,0⟩
 |none,n=>⟨n.gen,.gone,0,0⟩
def keeps:HN→Bool
 | .dead _| .farr _ _ _| .fbox _ _=>false
 |_=>true
def Au (ms:List (Key×Key)) (τ:St) (F:Key→Set):Key→Set:=fun κ'=>match eC κ' ms with
 |some κ=>if keeps (lkN τ.heap κ'.1 κ'.2) then F κ else Set.no
 |none=>Set.no
def Il (ms:List (Key×Key)) (τ:St) (F:Key→Set) (imm:Set):Set:=fun b=>imm b∨∃κ' κ,eC κ' ms=some κ∧keeps (lkN τ.heap κ'.1 κ'.2)=false∧F κ b

theorem IZ {imm:Set} {κ κ':Key} {g g' i n:Nat} {u:Value} (hk:isK (eC κ' ms) κ=true) (hg:(lkN σ.heap κ.1 κ.2).gen=g) (hg':(lkN τ.heap κ'.1 κ'.2).gen=g') (h:aD ρ σ a w imm Λ F) (hr:eB (Λ κ) g i n u):eB (iJ ms τ Λ κ') g' i n u:=by
 have hf:=(tV _ _).1 hk
 have hgen:=rn h κ
 have h1:=hr.2.1 (by rw[hgen,hg])
 unfold iJ
 rw[hf]
 cases hn:lkN τ.heap κ'.1 κ'.2 with
 |dead q=>rw[hn] at hg';simp only[HN.gen] at hg';subst hg';exact⟨qzi _,fun _=>trivial,hr.2.2⟩
 |_=>rw[hn] at hg';subst hg';exact⟨qzi _,fun _=>h1,hr.2.2⟩
theorem Ja {imm:Set} {κ κ':Key} {g g' i o:Nat} {u:Value} (hk:isK (eC κ' ms) κ=true) (hg:(lkN σ.heap κ.1 κ.2).gen=g) (hg':(lkN τ.heap κ'.1 κ'.2).gen=g') (h:aD ρ σ a w imm Λ F) (hr:eG (Λ κ) g i o u):eG (iJ ms τ Λ κ') g' i o u:=by
 have hf:=(tV _ _).1 hk
 have hgen:=rn h κ
 have h1:=hr.2.1 (by rw[hgen,hg])
 unfold iJ
 rw[hf]
 cases hn:lkN τ.heap κ'.1 κ'.2 with
 |dead q=>rw[hn] at hg';simp only[HN.gen] at hg';subst hg';exact⟨qzi _,fun _=>trivial,hr.2.2⟩
 |_=>rw[hn] at hg';subst hg';exact⟨qzi _,fun _=>h1,hr.2.2⟩

def An (ms:List (Key×Key)) (τ:St):Prop:=∀κ':Key,eC κ' ms=none→(match lkN τ.heap κ'.1 κ'.2 with| .arr _ _ rows=>rows=[]| .dead _=>True|_=>False)
mutual
theorem Fv (h:aD ρ σ a w imm Λ F) (hN:An ms τ) {imm':Set} (hi:Set.le imm imm'):∀(x y:A) (v:Value) (S:Set),kc ms σ τ x y→CR w imm (some Λ) x v S→CR w imm' (some (iJ ms τ Λ)) y v S
 |x,.hole,v,S,_,_=>by simp only[CR]
 |x,.ref κ' g' i' n',v,S,hc,hx=>by
  cases x <;> simp only[kc] at hc
  ·rename_i u
   obtain⟨h0,h1,h2,rfl,rfl⟩:=hc
   have:=yR h0
   subst this
   have hv:=bM hx
   subst hv
   simp only[CR]
   have hn:=hN κ' h1
   unfold iJ
   rw[h1]
   cases hq:lkN τ.heap κ'.1 κ'.2 with
   |dead q=>rw[hq] at h2;simp only[HN.gen] at h2;subst h2;exact⟨qzi _,fun _=>trivial,_,_,_,rfl⟩
   |arr g k rows=>rw[hq] at h2;simp only[HN.gen] at h2;subst h2;exact⟨qzi _,fun _=>⟨rfl,rfl,rfl⟩,_,_,_,rfl⟩
   |_=>rw[hq] at hn;exact hn.elim
  ·simp only[CR] at hx⊢
   obtain⟨h1,h2,h3,rfl,rfl⟩:=hc
   exact IZ h1 h2 h3 h hx
 |x,.mptr κ' g' i' n',v,S,hc,hx=>by
  cases x <;> simp only[kc] at hc
  simp only[CR] at hx⊢
  obtain⟨h1,h2,h3,rfl,rfl⟩:=hc
  exact Ja h1 h2 h3 h hx
 |x,.tree rows,v,S,hc,hx=>by
  cases x <;> simp only[kc] at hc
  ·obtain⟨h0,rfl⟩:=hc
   have:=yR h0
   subst this
   have hv:=bM hx
   subst hv
   simp only[CR]
   exact⟨none,0,rfl,qzi _,.inl trivial⟩
  ·subst hc
   simp only[CR] at hx⊢
   obtain⟨ad,e⟩:=hx
   exact⟨ad,0,e,qzi _,.inl trivial⟩
  ·subst hc
   exact CR.any _ _ _ _ _ _ (CR.stable hi (fun _ _=>rfl) none none _ _ _ _ trivial (Set.le_refl _) (fun _ _=>rfl) (show CR w imm none (.tree rows) v S by simp only[CR] at hx⊢;exact hx))
 |x,.agg ds,v,S,hc,hx=>by
  cases x <;> simp only[kc] at hc
  simp only[CR] at hx⊢
  obtain⟨vs,e,hx⟩:=hx
  exact⟨vs,e,tz h hN hi _ ds vs S hc hx⟩
 |x,.tup ds,v,S,hc,hx=>by
  cases x <;> simp only[kc] at hc
  simp only[CR] at hx⊢
  obtain⟨vs,e,hx⟩:=hx
  exact⟨vs,e,tz h hN hi _ ds vs S hc hx⟩
 |x,.clo g ds,v,S,hc,hx=>by
  cases x <;> simp only[kc] at hc
  simp only[CR] at hx⊢
  obtain⟨rfl,hc⟩:=hc
  obtain⟨vs,e,hx⟩:=hx
  exact⟨vs,e,tz h hN hi _ ds vs _ hc hx⟩
 |x,.lit u,v,S,hc,hx=>by
  cases x <;> simp only[kc] at hc
  subst hc
  simp only[CR] at hx⊢;exact hx
 |x,.emp,v,S,hc,hx=>by
  cases x <;> simp only[kc] at hc
  simp only[CR] at hx⊢;exact hx
 |x,.iptr s p,v,S,hc,hx=>by
  cases x <;> simp only[kc] at hc
  obtain⟨rfl,rfl⟩:=hc
  exact CR.any _ _ _ _ _ _ (CR.stable hi (fun _ _=>rfl) none none _ _ _ _ trivial (Set.le_refl _) (fun _ _=>rfl) (show CR w imm none (.iptr s p) v S by simp only[CR] at hx⊢;exact hx))
 |x,.inl _ _,v,S,hc,_=>by simp only[kc] at hc
 |x,.obox _,v,S,hc,_=>by simp only[kc] at hc
 |x,.optr _ _ _,v,S,hc,_=>by simp only[kc] at hc
theorem tz (h:aD ρ σ a w imm Λ F) (hN:An ms τ) {imm':Set} (hi:Set.le imm imm'):∀(xs ys:List A) (vs:List Value) (S:Set),oj ms σ τ xs ys→af w imm (some Λ) xs vs S→af w imm' (some (iJ ms τ Λ)) ys vs S
 |[],[],[],S,_,_=>by simp only[af]
 |x::xs,y::ys,v::vs,S,hc,hx=>by
  simp only[oj] at hc
  simp only[af] at hx⊢
  obtain⟨S1,S2,h1,h2,h3⟩:=hx
  exact⟨S1,S2,Fv h hN hi x y v S1 hc.1 h1,tz h hN hi xs ys vs S2 hc.2 h2,h3⟩
 |[],_::_,_,_,hc,_=>by simp only[oj] at hc
 |_::_,[],_,_,hc,_=>by simp only[oj] at hc
 |[],[],_::_,_,_,hx=>by simp only[af] at hx
 |_::_,_::_,[],_,_,hx=>by simp only[af] at hx
end

theorem AR (h:aD ρ σ a w imm Λ F) (hN:An ms τ) {imm':Set} (hi:Set.le imm imm') {xs ys:List A} {b o:Nat} {S:Set} (hc:oj ms σ τ xs ys) (hx:ai w imm (some Λ) xs b o S):ai w imm' (some (iJ ms τ Λ)) ys b o S∧ys.length=xs.length:=by
 obtain⟨vs,h1,h2,h3⟩:=ai.vals _ _ _ hx
 have:=tz h hN hi xs ys vs S hc h3
 exact⟨ai.of_vals this h2,by rw[←this.length,h1]⟩

theorem HF {l:List (Nat×A)}:Dt ms σ τ l→∀t,kc ms σ τ (lkS σ.slots t) (lkS l t):=by
 induction l with
 |nil=>intro _ t;simp only[lkS,kc]
 |cons p l ih=>
  obtain⟨u,b⟩:=p
  intro h t
  simp only[Dt] at h
  rw[dD]
  by_cases e:t=u
  ·subst e;rw[if_pos rfl];exact h.1
  ·rw[if_neg e];exact ih h.2 t
theorem HV {l:List (Key×HN)}:Dl ms σ τ l→∀κ':Key,match eC κ' ms with
   |some κ=>qU ms σ τ (lkN σ.heap κ.1 κ.2) (lkN l κ'.1 κ'.2)
   |none=>match lkN l κ'.1 κ'.2 with
    | .arr _ _ rows=>rows=[]
    | .dead _=>True
    |_=>False:=by
 induction l with
 |nil=>
  intro _ κ'
  cases hf:eC κ' ms with
  |some κ=>simp only[lkN];cases lkN σ.heap κ.1 κ.2 <;> simp only[qU]
  |none=>simp only[lkN]
 |cons p l ih=>
  obtain⟨u,n⟩:=p
  intro h κ'
  simp only[Dl] at h
  rw[aP]
  by_cases e:κ'=u
  ·subst e;rw[if_pos rfl];exact h.1
  ·rw[if_neg e];exact ih h.2 κ'

theorem bm (ms:List (Key×Key)) (hc:Ak ms σ τ):Cov σ τ:=by
 rintro ρ a w ⟨imm,Λ,F,h⟩
 obtain⟨hinj,hS,hH⟩:=hc
 have hat:=HV hH
 have hN:An ms τ:=fun κ' hk=>by have:=hat κ';rw[hk] at this;exact this
 have hi:Set.le imm (Il ms τ F imm):=fun b hb=>.inl hb
 have inj:∀{κ1 κ2 y:Key},eC κ1 ms=some y→eC κ2 ms=some y→κ1=κ2:=fun h1 h2=>C9 hinj (oU h1) (oU h2)
 have hFsub:∀κ' b,Au ms τ F κ' b→∃κ,eC κ' ms=some κ∧keeps (lkN τ.heap κ'.1 κ'.2)=true∧F κ b:=by
  intro κ' b hb
  cases hf:eC κ' ms with
  |none=>simp only[Au,hf] at hb;exact hb.elim
  |some κ=>
   simp only[Au,hf] at hb
   cases hk:keeps (lkN τ.heap κ'.1 κ'.2) with
   |true=>rw[hk] at hb;exact⟨κ,rfl,rfl,hb⟩
   |false=>rw[hk] at hb;exact hb.elim
 refine⟨Il ms τ F imm,iJ ms τ Λ,Au ms τ F,{ size:=h.size,nlt:=h.nlt,slots:=fun t=>Fv h hN hi _ _ _ _ (HF hS t) (h.slots t),nodes:=fun κ'=>?_,dis:=fun κ1 κ2 hne b h1 h2=>?_,fimm:=fun κ' b hb hb2=>?_,flt:=fun κ' b hb=>?_,immlt:=fun b hb=>?_,imm0:=Set.le_trans h.imm0 hi,keep:=h.keep,grow:=h.grow,os:=h.os,defers:=h.defers,rs:=fun κ'=>?_ }⟩
 rotate_right
 ·have hk:=hat κ'
  have hr:=fun κ (_:eC κ' ms=some κ)=>h.rs κ
  have hNR:∀κ,eC κ' ms=some κ→NR w imm Λ (Λ κ) (lkN σ.heap κ.1 κ.2) (F κ):=fun κ _=>h.nodes κ
  unfold iJ
  cases hf:eC κ' ms with
  |none=>
   rw[hf] at hk
   simp only at hk⊢
   cases hq:lkN τ.heap κ'.1 κ'.2 with
   |box g ds=>rw[hq] at hk;exact hk.elim
   |_=>trivial
  |some κ=>
   rw[hf] at hk
   have hn:=hNR κ hf
   have hr:=hr κ hf
   simp only at hk⊢
   cases hq:lkN τ.heap κ'.1 κ'.2 with
   |box g ds=>
    rw[hq] at hk
    cases hs:lkN σ.heap κ.1 κ.2 <;> rw[hs] at hk hn hr <;> simp only[qU] at hk
    obtain⟨h1,h2,h3,b,base,size,S',h4,h5,h6,h7,h8,h9,h10⟩:=hn
    obtain⟨q1,q2⟩:=AR h hN hi hk h10
    intro b0 base0 size0 e0
    rw[q2]
    exact hr b0 base0 size0 e0
   |_=>trivial
 ·have hk:=hat κ'
  have hNR:∀κ,eC κ' ms=some κ→NR w imm Λ (Λ κ) (lkN σ.heap κ.1 κ.2) (F κ):=fun κ _=>h.nodes κ
  unfold iJ Au
  cases hf:eC κ' ms with
  |none=>
   rw[hf] at hk
   simp only at hk⊢
   cases hq:lkN τ.heap κ'.1 κ'.2 with
   |dead g=>exact⟨rfl,rfl⟩
   |arr g k rows=>rw[hq] at hk;simp only at hk;subst hk;exact⟨rfl,rfl,rfl,.inl ⟨rfl,rfl⟩⟩
   |_=>rw[hq] at hk;exact hk.elim
  |some κ=>
   rw[hf] at hk
   have hn:=hNR κ hf
   simp only at hk⊢
   have hlam:iJ ms τ Λ=iJ ms τ Λ:=rfl
   cases hq:lkN τ.heap κ'.1 κ'.2 with
   |dead g=>exact⟨rfl,rfl⟩
   |box g ds=>
    rw[hq] at hk
    cases hs:lkN σ.heap κ.1 κ.2 <;> rw[hs] at hk hn <;> simp only[qU] at hk
    obtain⟨h1,h2,h3,b,base,size,S',h4,h5,h6,h7,h8,h9,h10⟩:=hn
    obtain⟨q1,q2⟩:=AR h hN hi hk h10
    exact⟨rfl,by rw[q2];exact h2,h3,b,base,size,S',h4,by simpa [keeps] using h5,h6,by simpa [keeps] using h7,h8,by rw[q2];exact h9,q1⟩
   |arr g k rows=>
    rw[hq] at hk
    cases hs:lkN σ.heap κ.1 κ.2 <;> rw[hs] at hk hn <;> simp only[qU] at hk
    obtain⟨rfl,hk⟩:=hk
    obtain⟨h1,h2,h3,h4⟩:=hn
    have hlen:=(hk.ok (w:=w) (imm:=imm) (b:=0)).1
    refine⟨rfl,h2,by rw[hlen];exact h3,h4.imp (fun z=>⟨z.1,qzA (by rw[hlen,z.2];rfl)⟩) ?_⟩
    rintro⟨b,base,size,S',h5,h6,h7,h8,h9,h10,h11⟩
    replace h11:=(hk.ok (w:=w) (imm:=imm) (b:=b)).2 _ _ _ h11
    exact⟨b,base,size,S',h5,by simpa [keeps] using h6,h7,by simpa [keeps] using h8,h9,by rw[hlen];exact h10,aq.stable hi (fun _ _=>rfl) none none _ _ _ _ _ _ trivial (Set.le_refl _) rfl (fun _ _=>rfl) h11⟩
   |opn g k rows i row=>
    rw[hq] at hk
    cases hs:lkN σ.heap κ.1 κ.2 <;> rw[hs] at hk hn <;> simp only[qU] at hk
    obtain⟨rfl,rfl,rfl,hk⟩:=hk
    obtain⟨h1,h2,h3,b,base,size,S1,S2,h4,h5,h6,h7,h8,h9,h10,h11,h12,h13,h14,h15,h16⟩:=hn
    obtain⟨q1,q2⟩:=AR h hN hi hk h15
    exact⟨rfl,h2,h3,b,base,size,S1,S2,h4,by simpa [keeps] using h5,h6,h7,by simpa [keeps] using h8,by simpa [keeps] using h9,h10,h11,h12,h13,by rw[q2];exact h14,q1,iq.stable hi (fun _ _=>rfl) rfl (fun _ _=>rfl) h16⟩
   |fbox g ds=>
    rw[hq] at hk
    cases hs:lkN σ.heap κ.1 κ.2 <;> rw[hs] at hk hn <;> simp only[qU] at hk
    ·obtain⟨rfl,hk⟩:=hk
     obtain⟨h1,h2,h3,b,base,size,S',h4,h5,h6,h7,h8,h9,h10⟩:=hn
     exact⟨rfl,h2,h3,b,base,size,h4,.inr ⟨κ',κ,hf,by rw[hq];rfl,h5⟩,ai.stable hi (fun _ _=>rfl) none none _ _ _ _ _ trivial (Set.le_refl _) rfl (fun _ _=>rfl) (ai.data hk h10)⟩
    subst hk
    obtain⟨h1,h2,h3,b,base,size,h4,h5,h6⟩:=hn
    exact⟨rfl,h2,h3,b,base,size,h4,hi b h5,ai.stable hi (fun _ _=>rfl) none none _ _ _ _ _ trivial (Set.le_refl _) rfl (fun _ _=>rfl) h6⟩
   |farr g k rows=>
    rw[hq] at hk
    cases hs:lkN σ.heap κ.1 κ.2 <;> rw[hs] at hk hn <;> simp only[qU] at hk
    ·obtain⟨rfl,rfl⟩:=hk
     obtain⟨h1,h2,h3,h4⟩:=hn
     refine⟨rfl,h2,by rw[ge];exact h3,?_⟩
     rcases h4 with⟨h5,rfl⟩|⟨b,base,size,S',h5,h6,h7,h8,h9,h10,h11⟩
     ·exact .inl ⟨h5,rfl⟩
     ·exact .inr ⟨b,base,size,h5,.inr ⟨κ',κ,hf,by rw[hq];rfl,h6⟩,aq.freeze hi _ _ _ _ _ h11 (fun y hy=>.inr ⟨κ',κ,hf,by rw[hq];rfl,h8 y hy⟩)⟩
    ·obtain⟨rfl,rfl⟩:=hk
     obtain⟨h1,h2,h3,h4⟩:=hn
     refine⟨rfl,h2,h3,h4.imp id ?_⟩
     rintro⟨b,base,size,h5,h6,h7⟩
     exact⟨b,base,size,h5,hi b h6,aq.stable hi (fun _ _=>rfl) none none _ _ _ _ _ _ trivial (Set.le_refl _) rfl (fun _ _=>rfl) h7⟩
 ·obtain⟨y1,f1,_,hF1⟩:=hFsub κ1 b h1
  obtain⟨y2,f2,_,hF2⟩:=hFsub κ2 b h2
  by_cases e:y1=y2
  ·subst e;exact hne (inj f1 f2)
  ·exact h.dis y1 y2 e b hF1 hF2
 ·obtain⟨y1,f1,k1,hF1⟩:=hFsub κ' b hb
  rcases hb2 with hb2|⟨κ2,y2,f2,k2,hF2⟩
  ·exact h.fimm y1 b hF1 hb2
  ·by_cases e:y1=y2
   ·subst e
    have:=inj f1 f2
    subst this
    rw[k1] at k2;cases k2
   ·exact h.dis y1 y2 e b hF1 hF2
 ·obtain⟨y1,_,_,hF1⟩:=hFsub κ' b hb
  exact h.flt y1 b hF1
 ·rcases hb with hb|⟨κ2,y2,_,_,hF2⟩
  ·exact h.immlt b hb
  ·exact⟨(h.flt y2 b hF2).1,.inr (h.flt y2 b hF2).2⟩
end
end Go.Vm
/- Type tables, checked by computation. -/
namespace Go.Vm

inductive Tr (α:Type) where
 |leaf
 |node (l:Tr α) (k:Nat) (v:α) (r:Tr α)
def Tr.get {α:Type} (d:α):Tr α→Nat→α
 | .leaf,_=>d
 | .node l k v r,x=>if Nat.beq x k then v else if Nat.blt x k then l.get d x else r.get d x
def Tr.all {α:Type} (p:Nat→α→Bool):Tr α→Bool
 | .leaf=>true
 | .node l k v r=>if l.all p then(if p k v then r.all p else false) else false

def Ee:TypeDesc→TD→Bool
 | .int k,.int k'=>k==k'
 | .bool,.bool=>true
 | .string,.str=>true
 | .slice e,.slice e'=>e==e'
 | .pointer e,.ptr e'=>e==e'
 | .struct fields,.struct fs=>fields.toList.map (fun f=>(f.offset,f.type))==fs
 | .func _ _ _,.other=>true
 |_,_=>false
/-- a zero cell -/
inductive Z where
 |int (k:IntKind)|bool|str|slice|ptr|func
def Z.val:Z→Value
 | .int k=>.int k 0
 | .bool=>.bool false
 | .str=>.string ⟨#[]⟩
 | .slice=>.slice none 0 0
 | .ptr=>.pointer none
 | .func=>.nilFunc
def Z.is:Z→Value→Bool
 | .int k,.int k' n=>k==k'&&n==0
 | .bool,.bool b=> !b
 | .str,.string s=>s.data.size==0
 | .slice,.slice none 0 0=>true
 | .ptr,.pointer none=>true
 | .func,.nilFunc=>true
 |_,_=>false
theorem Z.is_eq {z:Z} {v:Value} (h:z.is v=true):v=z.val:=by
 unfold Z.is at h
 split at h
 ·simp only[qzf,beq_iff_eq] at h;obtain⟨rfl,rfl⟩:=h;rfl
 ·rename_i b;cases b <;> simp at h;rfl
 ·rename_i s
  obtain⟨d⟩:=s
  have:d= #[]:=Array.eq_empty_of_size_eq_zero (by simpa using h)
  subst this;rfl
 ·rfl
 ·rfl
 ·rfl
 ·cases h
def zsB:List Z→List Value→Bool
 |[],[]=>true
 |z::zs,v::vs=>if z.is v then zsB zs vs else false
 |_,_=>false
theorem FA:∀{zs:List Z} {vs:List Value},zsB zs vs=true→vs=zs.map Z.val
 |[],[],_=>rfl
 |z::zs,v::vs,h=>by
  simp only[zsB] at h
  split at h
  ·rename_i h1;rw[Z.is_eq h1,FA h];rfl
  ·cases h
 |[],_::_,h=>by cases h
 |_::_,[],h=>by cases h

structure TZ where
 td:TD
 size:Nat
 bytes:Nat
 zs:List Z
 flat:Bool
def TZ.info (x:TZ):TI:=⟨x.td,x.size,x.bytes,x.zs.map fun z=>.lit z.val,x.flat⟩
def Bz (P:Program) (t:Nat):Bool:= !P.stoodInHeld t&& !P.eqGuardType P.depth t&&match P.underlying t with
 |some (.struct fs)=>match fs.toList with
  | [f0, f1, f2] => f0.offset == 0 && f1.offset == 1 && f2.offset == 2 && f0.name != "_" && f1.name != "_" && f2.name != "_" && (match P.underlying f0.type, P.underlying f1.type, P.underlying f2.type with
   |some (.int _),some (.int _),some (.int _)=>true
   |_,_,_=>false)
  |_=>false
 |_=>false
theorem Ga {P:Program} {t:Nat} (h:Bz P t=true):wF P t:=by
 unfold Bz at h
 simp only[qzf,tg] at h
 obtain⟨⟨h1,h2⟩,h3⟩:=h
 split at h3
 ·rename_i fs hu
  split at h3
  ·rename_i f0 f1 f2 hfs
   simp only[qzf,beq_iff_eq,bne_iff_ne,ne_eq] at h3
   obtain⟨⟨⟨⟨⟨⟨a0,a1⟩,a2⟩,n0⟩,n1⟩,n2⟩,h3⟩:=h3
   split at h3
   ·rename_i k0 k1 k2 e0 e1 e2
    have:fs= #[f0,f1,f2]:=Array.ext' (by simpa using hfs)
    exact⟨h1,h2,f0,f1,f2,k0,k1,k2,this▸hu,a0,a1,a2,n0,n1,n2,e0,e1,e2⟩
   ·cases h3
  ·cases h3
 ·cases h3
def D9 (P:Program) (t:Nat) (x:TZ):Bool:=match P.info? t,P.underlying t with
 |some i,some d=>match i.zero with
  |some z=>i.size==x.size&&i.bytes==x.bytes&&Ee d x.td&&zsB x.zs z.cells.toList&&x.zs.length==x.size&&(!x.flat||Bz P t)
  |none=>false
 |_,_=>false
theorem FE {d:TypeDesc} {td:TD} (h:Ee d td=true):ez d td:=by
 unfold Ee at h
 split at h <;> first|(cases h;done)|(simp only[ez];exact beq_iff_eq.1 h)|(simp only[ez];done)
theorem C6 {P:Program} {t:Nat} {x:TZ} (h:D9 P t x=true):TOk P t x.info∧wh P t x.info:=by
 unfold D9 at h
 split at h
 ·rename_i i d hi hd
  split at h
  ·rename_i z hz
   simp only[qzf,beq_iff_eq] at h
   obtain⟨⟨⟨⟨⟨h1,h2⟩,h3⟩,h4⟩,h5⟩,h6⟩:=h
   refine⟨⟨i,d,z,hi,h1,h2,hd,FE h3,hz,?_,?_⟩,fun hf=>?_⟩
   ·rw[FA h4];simp[TZ.info]
   ·simpa [TZ.info] using h5
   ·have hf':x.flat=true:=hf
    rw[hf'] at h6
    exact Ga (by simpa using h6)
  ·cases h
 ·cases h

theorem Tr.get_ok {α:Type} {d:α} {p:Nat→α→Bool} {Q:Nat→α→Prop} (hp:∀k v,p k v=true→Q k v) (hd:∀t,Q t d):∀{T:Tr α},T.all p=true→∀t,Q t (T.get d t)
 | .leaf,_,t=>hd t
 | .node l k v r,h,t=>by
  simp only[Tr.all] at h
  split at h
  ·rename_i hl
   split at h
   ·rename_i hk
    simp only[Tr.get]
    split
    ·rename_i he
     rw[qzW he]
     exact hp k v hk
    ·split
     ·exact Tr.get_ok hp hd hl t
     ·exact Tr.get_ok hp hd h t
   ·cases h
  ·cases h

def TZ.none:TZ:=⟨.other,0,0,[],false⟩
theorem Ip {P:Program} {T:Tr TZ} {sig:Nat→List Mode} {gap inl ro:List Nat} (h:T.all (D9 P)=true):EOk P ⟨fun t=>(T.get TZ.none t).info,sig,gap,inl,ro⟩:=by
 have none_ok:∀t,((TZ.none.info.size≠0∨iK TZ.none.info.td=false)→TOk P t TZ.none.info)∧wh P t TZ.none.info:=by
  refine fun t=>⟨fun h=>?_,fun h=>?_⟩
  ·rcases h with h|h
   ·exact absurd rfl h
   ·cases h
  ·cases h
 have:=fun t=>Tr.get_ok (p:=D9 P) (Q:=fun t x=>((x.info.size≠0∨iK x.info.td=false)→TOk P t x.info)∧wh P t x.info) (d:=TZ.none) (fun k v hk=>⟨fun _=>(C6 hk).1,(C6 hk).2⟩) none_ok h t
 exact⟨fun t ht=>(this t).1 ht,fun t=>(this t).2⟩

theorem HY {n:Int} (h: -9223372036854775808≤n∧n<9223372036854775808):IntKind.i64.wrap n=n:=by
 rw[IntKind.wrap_i64];omega

theorem yP {fn:Func} {c:Code} (h:fn.body.isNone=false) (hc:fn.body.getD .skip=c):fn.body=some c:=by
 cases hb:fn.body with
 |none=>rw[hb] at h;cases h
 |some x=>rw[hb] at hc;exact congrArg some hc
end Go.Vm
/- Results that lie in cells; loops with one way out; arguments that are lent. -/
namespace Go.Vm
section
variable {P:Program} {E:TE} {ρ:Env} {σ:St} {K:List W→Prop} {a:Act} {w:World} {imm:Set} {Λ:Lam} {F:Key→Set}

/-- the results of a body: slots, or cells -/
def nK (E:TE):List (Nat×Option Nat)→(List A→Pg)→Pg
 |[],f=>f []
 |(t,none)::ts,f=>.gs t fun a=>nK E ts fun as=>f (a::as)
 |(t,some u)::ts,f=>.gs t fun p=>match p with
  | .mptr κ g i off=>.gn κ fun h=>match h with
   | .box g' cells=>if g=g'∧i=0 then(oo (cut off (E.info u).size cells) fun cs=>if cs.all plain then(oo (fT (E.info u).td cs) fun v=>nK E ts fun as=>f (v::as)) else .fail) else .fail
   |_=>.fail
  |_=>.fail
def resVar:Nat×Option Nat→ResultVar
 |(t,none)=>.tmp t
 |(t,some u)=>.cell t u
def pT (P:Program) (w:World) (tmps:Array Value) (x:Nat×Option Nat):Value:=match(iE tmps (resVar x)).run P w with
 | .ok v _=>v
 |_=>undef
theorem mC (hE:EOk P E) (h:aD ρ σ a w imm Λ F):∀(ts:List (Nat×Option Nat)) (f:List A→Pg),(∀x∈ts,x.1<1000000)→(nK E ts f).holds σ K→
  ∃vs,(f vs).holds σ K∧af w imm (some Λ) vs (ts.map (pT P w a.tmps)) Set.no∧∀x∈ts,(iE a.tmps (resVar x)).run P w= .ok (pT P w a.tmps x) w
 |[],f,_,hh=>⟨[],hh,by simp only[pC,af],by simp⟩
 |(t,none)::ts,f,hl,hh=>by
  obtain⟨vs,h1,h2,h3⟩:=mC hE h ts _ (fun x hx=>hl x (qzv _ hx)) hh
  have ht:t<1000000:=hl _ qzx
  have hr:(iE a.tmps (resVar (t,none))).run P w= .ok (a.tmps.getD t undef) w:=by simp[iE,resVar]
  have hg:pT P w a.tmps (t,none)=a.tmps.getD t undef:=by unfold pT;rw[hr]
  have hs:=h.slots t
  unfold slotv at hs
  rw[if_pos ht] at hs
  refine⟨_::vs,h1,?_,?_⟩
  ·simp only[qzG,af]
   rw[hg]
   exact⟨Set.no,Set.no,hs,h2,Set.le_refl _,Set.le_refl _,Set.no_dis _⟩
  ·intro x hx
   rcases qzo.1 hx with rfl|hx
   ·rw[hg];exact hr
   ·exact h3 x hx
 |(t,some u)::ts,f,hl,hh=>by
  have ht:t<1000000:=hl _ qzx
  have hs:=h.slots t
  simp only[nK,Pg.holds] at hh
  unfold slotv at hs
  rw[if_pos ht] at hs
  cases hx:lkS σ.slots t <;> rw[hx] at hh hs <;> simp only[Pg.holds] at hh
  rename_i κ g i off
  have hN:=h.nodes κ
  simp only[CR] at hs
  cases hn:lkN σ.heap κ.1 κ.2 <;> rw[hn] at hh hN <;> simp only[Pg.holds] at hh
  rename_i g' cells
  split at hh
  ·rename_i hg
   obtain⟨rfl,rfl⟩:=hg
   obtain⟨h1,h2,h3,b,base,size,S',h4,h5,h6,h7,h8,h9,h10⟩:=hN
   obtain⟨b',base',size',e1,e2⟩:=eG.at hs h1 (by rw[h4];simp)
   rw[h4] at e1
   simp only[Loc.at_.injEq] at e1
   obtain⟨rfl,rfl,rfl⟩:=e1
   obtain⟨cs,hcut,hh⟩:=bS hh
   split at hh
   ·rename_i hp
    obtain⟨v,hm,hh⟩:=bS (x:=fT _ _) hh
    obtain⟨y,hrun,hv⟩:=nQ (P:=P) hE (ai.cut _ _ _ _ _ _ hcut h10) (qe _ _ _ _ hcut) hm
    obtain⟨vs,q1,q2,q3⟩:=mC hE h ts _ (fun x hx=>hl x (qzv _ hx)) hh
    have hr:(iE a.tmps (resVar (t,some u))).run P w= .ok y w:=by
     have hrun':(loadVar u ⟨b,base+off,none⟩).run P w= .ok y w:=by
      simpa [Instr.loadAt,Instr.sureAddr] using hrun
     simp only[iE,resVar,e2,asAddr,Nat.zero_mul,Nat.add_zero,Sem.run_bind,Sem.run_pure,Result.andThen_ok]
     exact hrun'
    have hg:pT P w a.tmps (t,some u)=y:=by unfold pT;rw[hr]
    refine⟨_::vs,q1,?_,?_⟩
    ·simp only[qzG,af]
     rw[hg]
     exact⟨Set.no,Set.no,pB hm hp hv,q2,Set.le_refl _,Set.le_refl _,Set.no_dis _⟩
    ·intro x hx
     rcases qzo.1 hx with rfl|hx
     ·rw[hg];exact hr
     ·exact q3 x hx
   ·exact hh.elim
  ·exact hh.elim
theorem rR {fn:Func} {ts:List (Nat×Option Nat)} (h:fn.results.toList=ts.map resVar) (tmps:Array Value) (hr:∀x∈ts,(iE tmps (resVar x)).run P w= .ok (pT P w tmps x) w) :
  (results fn tmps).run P w= .ok (ik (ts.map (pT P w tmps)).toArray) w:=by
 let G:ResultVar→Value:=fun x=>match(iE tmps x).run P w with
  | .ok v _=>v
  |_=>undef
 have hm:(fn.results.mapM (iE tmps)).run P w= .ok (ts.map (pT P w tmps)).toArray w:=by
  rw[zo (P:=P) (w:=w) (f:=iE tmps) (g:=G) fn.results (fun x hx=>by
    rw[h] at hx
    obtain⟨t,ht,rfl⟩:=List.mem_map.1 hx
    have:=hr t ht
    show _=Result.ok (match(iE tmps (resVar t)).run P w with
     | .ok v _=>v
     |_=>undef) w
    rw[this]),h,List.map_map]
  rfl
 rw[El,Sem.run_bind,hm]
 rfl

def vT (E:TE) (C:Ctx) (ts:List (Nat×Option Nat)) (rm:List Mode) (gs:List Nat) (pm:List Mode) (post:List A) (r:A):Pg:=
 nK E ts fun vs=>qa gs fun as=>lh C 40 rm vs fun rds=>lh C 40 pm as fun pds=>.need (tupOf rds=r∧pds=post) (.done [])
theorem Bp {R : St → Prop} (hE : EOk P E) (hm : P.follows .mixedOrders = true) {f : FuncId} {fn : Func} {c : Code} {ts : List (Nat × Option Nat)} {rm : List Mode} {gs : List Nat} {pm : List Mode} {ds post : List A} {r : A} (hf : P.funcs[f]? = some fn) (hname : (fn.name == "runtime.NumGoroutine") = false) (hb : fn.body = some c)
  (hres:fn.results.toList=ts.map resVar) (hcode:ff fn.ntmps c=true) (hn:fn.ntmps≤1000000) (hds:ds.length≤fn.ntmps) (hgs:gs=(List.range ds.length).map (1000000+·)) (hts:∀t∈ts,t.1<1000000)
  (hR:∀ρ σ a w,R σ→Rel ρ σ a w→∃σ',(vT E (fq P) ts rm gs pm post r).holds σ' (fun _=>True)∧Rel ρ σ' a w)
  (h:pe (fq P) 0 ds ⟨[],[]⟩ fun σ=>wpC E (fq P) c (fun e σ=>match e with
   | .exit _=>False
   |_=>R σ) σ):ah P f ds post r:=by
 refine⟨⟨fn,hf,hname,by simp[hb]⟩,fun w imm S vs hv hSi himm hS=>?_⟩
 refine calls_of_wp hf hb ?_
 have hvl:=hv.length
 let ρ:Env:=⟨w,S,imm,fn.ntmps,vs,WAS ds vs⟩
 let a:Act:={ tmps:=vs.toArray++Array.replicate (fn.ntmps-vs.toArray.size) undef,defers:=[] }
 have h0:aD ρ ⟨[],[]⟩ a w imm (fun _=>⟨0,.gone,0,0⟩) (fun _=>Set.no):=
  {size := by show(vs.toArray++Array.replicate (fn.ntmps-vs.toArray.size) undef).size=fn.ntmps
              simp;omega
   nlt:=hn
   slots:=fun t=>by simp only[lkS,CR]
   nodes:=fun κ=>⟨rfl,rfl⟩
   dis:=fun _ _ _=>Set.no_dis _
   fimm:=fun _=>Set.no_dis _
   flt:=fun _ _ z=>z.elim
   immlt:=fun b hb=>⟨himm b hb,.inl hb⟩
   imm0:=Set.le_refl _
   keep:=fun _ _ _=>rfl
   grow:=qzi _
   os:=⟨rfl,rfl,rfl,aO.refl w⟩
   defers:=rfl
   rs:=fun _=>trivial }
 have hslot:∀j,j<vs.length→vs[j]? =some (slotv ρ a j)∧vs[j]? =some (slotv ρ a (1000000+j)):=by
  intro j hj
  have hj2:j<1000000:=by omega
  constructor
  ·unfold slotv
   rw[if_pos hj2]
   show _=some ((vs.toArray++Array.replicate (fn.ntmps-vs.toArray.size) undef).getD j undef)
   rw[qzr,Array.getElem?_append_left (by simpa using hj)]
   simp[hj]
  ·unfold slotv
   rw[if_neg qom]
   show _=some (vs.getD (1000000+j-1000000) undef)
   rw[show 1000000+j-1000000=j by omega]
   simp[hj]
 obtain⟨σ,hw,hr⟩:=uk (P:=P) ds 0 vs _ _ _ S h0 (KB.of_was ds vs fun b o n hw=>.inr ⟨hw,fun _ _=>rfl⟩) hv ⟨fun _ _ _ z=>z,hSi,fun b hb=>⟨hS b hb,.inl hb⟩⟩ (fun j hj=>by simpa using hslot j hj) h
 refine wp_mono (gw hE hm c _ σ hw ρ a w hcode hr) ?_
 intro e a' w' hq
 have fin:(∃σ',(vT E (fq P) ts rm gs pm post r).holds σ' (fun _=>True)∧Rel ρ σ' a' w')→bodyPost P fn (fun
   | .returned v,w'=>∃imm' T1 T2,Set.le imm imm'∧af w' imm' none post vs T1∧CR w' imm' none r v T2∧Set.dis T1 T2∧Set.dis T1 imm'∧Set.dis T2 imm'∧
     (∀b,T1 b∨T2 b→b<w'.heap.size∧(S b∨w.heap.size≤b))∧(∀b,imm' b→b<w'.heap.size∧(imm b∨S b∨w.heap.size≤b))∧
     (∀b,b<w.heap.size→¬S b→w'.heap[b]? =w.heap[b]?)∧w.heap.size≤w'.heap.size∧w'.os=w.os∧w'.output=w.output∧w'.tape=w.tape∧aO w w'∧KB (NS w w') post vs∧KB (tF w w' ds vs) [r] [v]
   | .panicked _,_=>False
   | .outgrown,_=>False) .ret a' w':=by
  rintro⟨σ',hh,imm0,Λ',F',hX⟩
  obtain⟨rvs,hh1,hrv,hruns⟩:=mC hE hX ts _ hts hh
  obtain⟨as,hh2,has⟩:=rD hX hh1
  have hP0:fh (ρ.kept w') σ' Λ' (fun b=>∃κ,F' κ b) σ' w' imm0 F':=⟨fun _=>rfl,fun κ=>.inr (hX.nodes κ),hX.dis,hX.fimm,fun κ b hb=>⟨κ,hb⟩,hX.rs⟩
  obtain⟨ws1,rds,imm1,F1,S1,q1,q2,q3,q4,q5,q6,q7,q8,q9⟩:=kk rvs rm _ _ σ' imm0 F' _ hP0 hrv hh2
  obtain⟨ws2,pds,imm2,F2,S2,p1,p2,p3,p4,p5,p6,p7,p8,p9⟩:=kk as pm _ _ _ imm1 F1 _ q2 (af.stable q3 (fun _ _=>rfl) _ _ _ _ _ _ (bF?.refl _) (Set.le_refl _) (fun _ _=>rfl) has) q1
  obtain⟨⟨rfl,rfl⟩,_⟩:=p1
  have hgv:gs.map (slotv ρ a')=vs:=by
   rw[hgs]
   apply List.ext_getElem?
   intro j
   simp only[List.map_map,qzC]
   rcases qzM j vs.length with hj|hj
   ·rw[List.getElem?_range qom]
    simp only[qzL,Function.comp]
    unfold slotv
    rw[if_neg qom]
    show some (vs.getD (1000000+j-1000000) undef)=_
    rw[show 1000000+j-1000000=j by omega]
    simp[hj]
   ·rw[qzR (by simp;omega),qzR hj];rfl
  rw[hgv] at p4
  have k1:=bE.kb _ _ _ p9 has
  rw[hgv] at k1
  replace k1:=KB.mono (p':=NS w w') (fun b o n hk=>hk.imp id fun h=>h.2) _ _ k1
  have k2:=(bE.kb _ _ _ q9 hrv).tupOf q4.length
  refine⟨hX.defers,_,rR hres a'.tmps hruns,imm2,S2,S1,Set.le_trans hX.imm0 (Set.le_trans q3 p3),p4,?_,fun b hb hb2=>?_,p5.imm,fun b hb hb2=>?_,fun b hb=>?_,fun b hb=>?_,hX.keep,hX.grow,hX.os.1,hX.os.2.1,hX.os.2.2.1,hX.os.2.2.2,k1,k2⟩
  ·exact CR.stable p3 (fun _ _=>rfl) none none _ _ _ _ trivial (Set.le_refl _) (fun _ _=>rfl) (Dc q4)
  ·obtain⟨κ,hk⟩:=p8 b hb
   exact q5.dis κ b hb2 hk
  ·rcases p6 b hb2 with h'|⟨κ,h'⟩
   ·exact q5.imm b hb h'
   ·exact q5.dis κ b hb h'
  ·have:∃κ,F' κ b:=by
    rcases hb with hb|hb
    ·obtain⟨κ,hk⟩:=p8 b hb;exact⟨κ,q7 κ b hk⟩
    ·exact q8 b hb
   obtain⟨κ,hk⟩:=this
   exact hX.flt κ b hk
  ·have:imm0 b∨∃κ,F' κ b:=by
    rcases p6 b hb with h'|⟨κ,h'⟩
    ·exact q6 b h'
    ·exact .inr ⟨κ,q7 κ b h'⟩
   rcases this with h'|⟨κ,hk⟩
   ·exact hX.immlt b h'
   ·exact⟨(hX.flt κ b hk).1,.inr (hX.flt κ b hk).2⟩
 cases e with
 |normal=>obtain⟨σ',h1,h2⟩:=hq;exact fin (hR _ _ _ _ h1 h2)
 |ret=>obtain⟨σ',h1,h2⟩:=hq;exact fin (hR _ _ _ _ h1 h2)
 |exit id=>obtain⟨_,h',_⟩:=hq;exact h'.elim
 |_=>exact hq.elim

def uO (fn : Func) (n : Nat) (ts : List (Nat × Option Nat)) : Bool := !(fn.name == "runtime.NumGoroutine") && !fn.body.isNone && ff fn.ntmps (fn.body.getD .skip) && Nat.ble fn.ntmps 1000000 && Nat.ble n fn.ntmps && ts.all fun t => Nat.blt t.1 1000000
/-- a loop whose ways out are led to states that are said beforehand -/
theorem GB {P:Program} {E:TE} {C:Ctx} (hC:C=fq P) (hE:EOk P E) (hm:P.follows .mixedOrders=true) {c:Code} {Q:Ex→St→Prop} {σ:St} {ι ξ:Type} (I:ι→St) (Inv:ι→Prop) (μ:ι→Nat) (X:ξ→Ex) (T:ξ→St) (Good:ξ→Prop) (i0:ι) (hi:Inv i0) (h0:Cov σ (I i0))
  (rest:∀x,Good x→Q (X x) (T x))
  (round:∀i (N:St→Prop) (D:Ex→St→Prop),Inv i→(∀σ' j,Inv j→μ j<μ i→Cov σ' (I j)→N σ')→(∀σ' x,Good x→Cov σ' (T x)→D (X x) σ')→(∀e σ',Q e σ'→D e σ')→
   wpC E C c (fun e σ'=>match e with| .normal=>N σ'|e=>D e σ') (I i)) (hmk:lJ c=false):C.LW c Q σ:=by
 subst hC
 have key:yp P (.loop c) (fun e σ'=>Q e σ'∨∃x,Good x∧X x=e∧Cov σ' (T x)) σ:=
  FJ hE hm (ι:={ i // Inv i }) (fun i=>I i.1) (fun i=>μ i.1) ⟨i0,hi⟩ h0 fun i=>
   round i.1 _ (fun e σ'=>Q e σ'∨∃x,Good x∧X x=e∧Cov σ' (T x)) i.2 (fun σ' j hj h2 h1=>⟨⟨j,hj⟩,h1,h2⟩) (fun σ' x hx hc=>.inr ⟨x,hx,rfl,hc⟩) (fun e σ' h=>.inl h)
 refine GQ hmk ?_
 intro ρ a w hc hr
 have lift:∀e a w,Gu ρ (fun e σ'=>Q e σ'∨∃x,Good x∧X x=e∧Cov σ' (T x)) e a w→Gu ρ Q e a w:=by
  intro e a w h
  have st:∀e',(∃σ,(Q e' σ∨∃x,Good x∧X x=e'∧Cov σ (T x))∧Rel ρ σ a w)→∃σ,Q e' σ∧Rel ρ σ a w:=by
   rintro e' ⟨σ',hq|⟨x,hx,rfl,hcov⟩,hrel⟩
   ·exact⟨σ',hq,hrel⟩
   ·exact⟨T x,rest x hx,hcov ρ a w hrel⟩
  cases e with
  |normal=>exact st _ h
  |exit id=>exact st _ h
  |ret=>exact st _ h
  |_=>exact h
 exact wp_mono (key ρ a w hc hr) lift

end
/- hypotheses taken apart -/
theorem bU {α:Type} {c:Prop} [Decidable c] {x y r:α} (h:(if c then x else y)=r):(c∧x=r)∨(¬c∧y=r):=by
 by_cases hc:c
 ·rw[if_pos hc] at h;exact .inl ⟨hc,h⟩
 ·rw[if_neg hc] at h;exact .inr ⟨hc,h⟩
def req {α:Type} (c:Prop) [Decidable c] (x:Option α):Option α:=if c then x else none
theorem ae {α:Type} {c:Prop} [Decidable c] {x:Option α} {r:α} (h:req c x=some r):c∧x=some r:=by
 unfold req at h
 rcases bU h with⟨hc,h⟩|⟨_,h⟩
 ·exact⟨hc,h⟩
 ·cases h
theorem ac {α:Type} {c:Prop} [Decidable c] {x:Option α} (h:c):req c x=x:=if_pos h
theorem ag {α β:Type} {x:Option α} {f:α→Option β} {r:β} (h:x.bind f=some r):∃y,x=some y∧f y=some r:=by
 cases x with
 |none=>cases h
 |some y=>exact⟨y,rfl,h⟩
end Go.Vm
/- Arguments that are lent; rows that are shut. -/
namespace Go.Vm
section
variable {P:Program} {E:TE} {Fn:FuncId→List A→List A→A→Prop} {LW:Code→(Ex→St→Prop)→St→Prop} {IN:InT} {ρ:Env} {σ:St} {K:List W→Prop} {a:Act} {w:World} {imm:Set} {Λ:Lam} {F:Key→Set}

mutual
/-- what it means does not lean on what stands still -/
def ownd:A→Bool
 | .lit _=>true
 | .emp=>true
 | .hole=>true
 | .inl _ rows=>jO rows
 | .obox cells=>lW cells
 | .agg cs=>lW cs
 | .tup cs=>lW cs
 |_=>false
def lW:List A→Bool
 |[]=>true
 |c::cs=>if ownd c then lW cs else false
def jO:Rows→Bool
 |[]=>true
 |r::rs=>if lW r then jO rs else false
end
mutual
theorem CR.ownd {imm':Set}:∀(x:A) (v:Value) (S:Set),Vm.ownd x=true→CR w imm none x v S→CR w imm' none x v S
 | .lit _,v,S,_,h=>by simp only[CR] at h⊢;exact h
 | .emp,v,S,_,h=>by simp only[CR] at h⊢;exact h
 | .hole,v,S,_,_=>by simp only[CR]
 | .inl k rows,v,S,ho,h=>by
  simp only[Vm.ownd] at ho
  simp only[CR] at h⊢
  obtain⟨a,cap,e,h⟩:=h
  refine⟨a,cap,e,h.imp id ?_⟩
  rintro⟨b,o,size,S',h0,h1,h2,h3,h4,h5,h6,h7,h8⟩
  exact⟨b,o,size,S',h0,h1,h2,h3,h4,h5,h6,h7,aq.ownd rows b o k S' ho h8⟩
 | .obox cells,v,S,ho,h=>by
  simp only[Vm.ownd] at ho
  simp only[CR] at h⊢
  obtain⟨b,o,size,S',h0,h1,h2,h3,h4,h5,h6⟩:=h
  exact⟨b,o,size,S',h0,h1,h2,h3,h4,h5,ai.ownd cells b o S' ho h6⟩
 | .agg cs,v,S,ho,h=>by
  simp only[Vm.ownd] at ho
  simp only[CR] at h⊢
  obtain⟨vs,e,h⟩:=h
  exact⟨vs,e,af.ownd cs vs S ho h⟩
 | .tup cs,v,S,ho,h=>by
  simp only[Vm.ownd] at ho
  simp only[CR] at h⊢
  obtain⟨vs,e,h⟩:=h
  exact⟨vs,e,af.ownd cs vs S ho h⟩
 | .tree _,v,S,ho,_=>by simp[Vm.ownd] at ho
 | .optr _ _ _,v,S,ho,_=>by simp[Vm.ownd] at ho
 | .ref ..,v,S,ho,_=>by simp[Vm.ownd] at ho
 | .mptr ..,v,S,ho,_=>by simp[Vm.ownd] at ho
 | .iptr ..,v,S,ho,_=>by simp[Vm.ownd] at ho
 | .clo ..,v,S,ho,_=>by simp[Vm.ownd] at ho
theorem ai.ownd {imm':Set}:∀(cs:List A) (b o:Nat) (S:Set),lW cs=true→ai w imm none cs b o S→ai w imm' none cs b o S
 |[],_,_,_,_,_=>by simp only[ai]
 |c::cs,b,o,S,ho,h=>by
  simp only[lW] at ho
  split at ho
  ·rename_i hc
   simp only[ai] at h⊢
   obtain⟨v,S1,S2,h1,h2,h3,h4,h5,h6⟩:=h
   exact⟨v,S1,S2,h1,CR.ownd c v S1 hc h2,ai.ownd cs b (o+1) S2 ho h3,h4,h5,h6⟩
  ·cases ho
theorem aq.ownd {imm':Set}:∀(rs:Rows) (b o k:Nat) (S:Set),jO rs=true→aq w imm none rs b o k S→aq w imm' none rs b o k S
 |[],_,_,_,_,_,_=>by simp only[aq]
 |r::rs,b,o,k,S,ho,h=>by
  simp only[jO] at ho
  split at ho
  ·rename_i hc
   simp only[aq] at h⊢
   obtain⟨S1,S2,h1,h2,h3,h4,h5,h6⟩:=h
   exact⟨S1,S2,h1,ai.ownd r b o S1 hc h2,aq.ownd rs b (o+k) k S2 ho h3,h4,h5,h6⟩
  ·cases ho
theorem af.ownd {imm':Set}:∀(cs:List A) (vs:List Value) (S:Set),lW cs=true→af w imm none cs vs S→af w imm' none cs vs S
 |[],[],_,_,_=>by simp only[af]
 |[],_::_,_,_,h=>by simp only[af] at h
 |_::_,[],_,_,h=>by simp only[af] at h
 |c::cs,v::vs,S,ho,h=>by
  simp only[lW] at ho
  split at ho
  ·rename_i hc
   simp only[af] at h⊢
   obtain⟨S1,S2,h2,h3,h4,h5,h6⟩:=h
   exact⟨S1,S2,CR.ownd c v S1 hc h2,af.ownd cs vs S2 ho h3,h4,h5,h6⟩
  ·cases ho
end
/-- some arguments are lent: the callee takes them for what stands still -/
inductive pI:List A→List A→List A→List A→Prop
 |nil:pI [] [] [] []
 |same {d p:A} {ds ps ds' ps':List A} (hp:Vm.ownd p=true) (h:pI ds ps ds' ps'):pI (d::ds) (p::ps) (d::ds') (p::ps')
 |lend {d d' p:A} {ds ps ds' ps':List A} (hd:d=fz d') (h:pI ds ps ds' ps'):pI (d::ds) (p::ps) (d'::ds') (d'::ps')

theorem WAS.fz:∀(cs:List A) (us:List Value) {b o n:Nat},WAS (bv cs) us b o n→WAS cs us b o n
 |[],us,b,o,n,h=>by cases us <;> simp only[bv,WAS] at h
 |c::cs,[],b,o,n,h=>by cases c <;> simp only[bv,Vm.fz,WAS] at h
 |c::cs,u::us,b,o,n,h=>by
  have ih:=WAS.fz cs us (b:=b) (o:=o) (n:=n)
  cases c <;> simp only[bv,Vm.fz,WAS] at h⊢ <;> try exact ih h
  ·exact .inr (ih h)
  ·exact h.imp (fun⟨vs,e,hw⟩=>⟨vs,e,WAS.fz _ vs hw⟩) ih
  ·exact h.imp (fun⟨vs,e,hw⟩=>⟨vs,e,WAS.fz _ vs hw⟩) ih
 termination_by cs=>SizeOf.sizeOf cs
theorem KB.fz {p:Nat→Nat→Nat→Prop}:∀(cs:List A) (us:List Value),KB p cs us→KB p (bv cs) us
 |[],us,_=>by cases us <;> simp only[bv,KB]
 |c::cs,[],_=>KB.nil
 |c::cs,u::us,h=>by
  have ih:=KB.fz cs us h.tail
  cases c <;> simp only[bv,Vm.fz,KB] at h⊢ <;> try exact ih
  ·exact⟨fun vs e=>KB.fz _ vs (h.1 vs e),ih⟩
  ·exact⟨fun vs e=>KB.fz _ vs (h.1 vs e),ih⟩
 termination_by cs=>SizeOf.sizeOf cs
theorem WAS.own {imm:Set} {b o n:Nat}:∀(ds:List A) (us:List Value) (S:Set),af w imm none ds us S→WAS ds us b o n→S b
 |[],us,S,_,h=>by cases us <;> simp only[WAS] at h
 |c::ds,[],S,hv,h=>by simp only[af] at hv
 |c::ds,u::us,S,hv,h=>by
  simp only[af] at hv
  obtain⟨S1,S2,h1,h2,h3,h4,_⟩:=hv
  have ih:=fun(h:WAS ds us b o n)=>h4 b (WAS.own (o:=o) (n:=n) ds us S2 h2 h)
  cases c <;> simp only[WAS] at h <;> simp only[CR] at h1 <;> try exact ih h
  ·rcases h with⟨e,_⟩|h
   ·obtain⟨b',o',size,S',e',hb,_⟩:=h1
    rw[e] at e'
    simp only[Value.pointer.injEq,qzh,Addr.mk.injEq,and_true] at e'
    rw[e'.1]
    exact h3 b' hb
   ·exact ih h
  ·rcases h with⟨vs,rfl,h⟩|h
   ·obtain⟨vs',e',hr⟩:=h1
    have e2:vs=vs':=by simpa using e'
    subst e2
    exact h3 b (WAS.own _ vs S1 hr h)
   ·exact ih h
  ·rcases h with⟨vs,rfl,h⟩|h
   ·obtain⟨vs',e',hr⟩:=h1
    have e2:vs=vs':=by simpa using e'
    subst e2
    exact h3 b (WAS.own _ vs S1 hr h)
   ·exact ih h
 termination_by ds=>SizeOf.sizeOf ds
theorem WAS.cons {c:A} {ds:List A} {u:Value} {us:List Value} {b o n:Nat}:WAS (c::ds) (u::us) b o n↔WAS [c] [u] b o n∨WAS ds us b o n:=by
 cases c <;> simp only[WAS,or_false,false_or]
theorem KB.cons {p:Nat→Nat→Nat→Prop} {c:A} {ds:List A} {u:Value} {us:List Value}:KB p (c::ds) (u::us)↔KB p [c] [u]∧KB p ds us:=by
 cases c <;> simp only[KB,and_true,true_and]
theorem pI.was {ds ps ds' ps':List A} (h:pI ds ps ds' ps'):∀(vs:List Value) {b o n:Nat},WAS ds vs b o n→WAS ds' vs b o n:=by
 induction h with
 |nil=>intro vs b o n h;exact h
 |same _ _ ih=>
  intro vs b o n h
  cases vs with
  |nil=>cases ‹A› <;> simp only[WAS] at h
  |cons v vs=>rw[WAS.cons] at h⊢;exact h.imp id (ih vs)
 | @lend d d' p ds ps ds' ps' hd _ ih=>
  intro vs b o n h
  cases vs with
  |nil=>cases d <;> simp only[WAS] at h
  |cons v vs=>
   rw[WAS.cons] at h⊢
   refine h.imp (fun h=>?_) (ih vs)
   subst hd
   exact WAS.fz [d'] [v] h
theorem pI.take {ds ps ds' ps':List A} (h:pI ds ps ds' ps'):∀(vs:List Value) (S:Set),af w imm none ds' vs S→∃SL SK:Set,Set.le SL S∧Set.le SK S∧Set.dis SL SK∧af w (fun b=>imm b∨SL b) none ds vs SK∧
  (∀(w':World) (imm1 imm' T:Set),(∀b,SL b→w'.heap[b]? =w.heap[b]?)→(∀b,imm b→w'.heap[b]? =w.heap[b]?)→Set.le imm imm'→Set.dis T SL→af w' imm1 none ps vs T→af w' imm' none ps' vs (fun b=>SL b∨T b))∧
  ∀(p:Nat→Nat→Nat→Prop),KB p ps vs→(∀b o n,SL b→WAS ds' vs b o n→p b o n)→KB p ps' vs:=by
 induction h with
 |nil=>
  intro vs S hv
  cases vs with
  |nil=>exact⟨Set.no,Set.no,Set.no_le _,Set.no_le _,Set.no_dis _,by simp only[af],fun _ _ _ _ _ _ _ _ _=>by simp only[af],fun _ h _=>h⟩
  |cons=>simp only[af] at hv
 | @same d p ds ps ds' ps' hp _ ih=>
  intro vs S hv
  cases vs with
  |nil=>simp only[af] at hv
  |cons v vs=>
   simp only[af] at hv
   obtain⟨S1,S2,h1,h2,h3,h4,h5⟩:=hv
   obtain⟨SL,SK,g1,g2,g3,g4,g5,g6⟩:=ih vs S2 h2
   refine⟨SL,fun b=>S1 b∨SK b,Set.le_trans g1 h4,fun b hb=>hb.elim (h3 b) (fun z=>h4 b (g2 b z)),fun b hb hc=>hc.elim (fun z=>h5 b z (g1 b hb)) (g3 b hb),?_,?_,fun p hk hw=>KB.cons.2 ⟨(KB.cons.1 hk).1,g6 p (KB.cons.1 hk).2 fun b o n hb h=>hw b o n hb (WAS.cons.2 (.inr h))⟩⟩
   ·simp only[af]
    exact⟨S1,SK,CR.stable (fun b hb=>.inl hb) (fun _ _=>rfl) none none _ _ _ _ trivial (Set.le_refl _) (fun _ _=>rfl) h1,g4,fun b hb=>.inl hb,fun b hb=>.inr hb,fun b hb hc=>h5 b hb (g2 b hc)⟩
   ·intro w' imm1 imm' T q1 q2 q3 q4 q5
    simp only[af] at q5⊢
    obtain⟨T1,T2,t1,t2,t3,t4,t5⟩:=q5
    exact⟨T1,fun b=>SL b∨T2 b,CR.ownd p v T1 hp t1,g5 w' imm1 imm' T2 q1 q2 q3 (fun b hb=>q4 b (t4 b hb)) t2,fun b hb=>.inr (t3 b hb),fun b hb=>hb.imp id (t4 b),fun b hb hc=>hc.elim (fun z=>q4 b (t3 b hb) z) (t5 b hb)⟩
 | @lend d d' p ds ps ds' ps' hd _ ih=>
  intro vs S hv
  subst hd
  cases vs with
  |nil=>simp only[af] at hv
  |cons v vs=>
   simp only[af] at hv
   obtain⟨S1,S2,h1,h2,h3,h4,h5⟩:=hv
   obtain⟨SL,SK,g1,g2,g3,g4,g5,g6⟩:=ih vs S2 h2
   refine⟨fun b=>S1 b∨SL b,SK,fun b hb=>hb.elim (h3 b) (fun z=>h4 b (g1 b z)),Set.le_trans g2 h4,fun b hb hc=>hb.elim (fun z=>h5 b z (g2 b hc)) (fun z=>g3 b z hc),?_,?_,fun p hk hw=>KB.cons.2 ⟨KB.of_was _ _ fun b o n h=>hw b o n (.inl (WAS.own [d'] [v] S1 (af.of_one h1) h)) (WAS.cons.2 (.inl h)),g6 p (KB.cons.1 hk).2 fun b o n hb h=>hw b o n (.inr hb) (WAS.cons.2 (.inr h))⟩⟩
   ·simp only[af]
    exact⟨Set.no,SK,CR.freeze (fun b hb=>.inl hb) _ v S1 h1 (fun b hb=>.inr (.inl hb)),af.stable (fun b hb=>hb.imp id .inr) (fun _ _=>rfl) none none _ _ _ _ trivial (Set.le_refl _) (fun _ _=>rfl) g4,Set.no_le _,Set.le_refl _,Set.no_dis _⟩
   ·intro w' imm1 imm' T q1 q2 q3 q4 q5
    simp only[af] at q5⊢
    obtain⟨T1,T2,t1,t2,t3,t4,t5⟩:=q5
    exact⟨S1,fun b=>SL b∨T2 b,CR.stable q3 q2 none none _ _ _ _ trivial (Set.le_refl _) (fun b hb=>q1 b (.inl hb)) h1,g5 w' imm1 imm' T2 (fun b hb=>q1 b (.inr hb)) q2 q3 (fun b hb hc=>q4 b (t4 b hb) (.inr hc)) t2,
     fun b hb=>.inl (.inl hb),fun b hb=>hb.elim (fun z=>.inl (.inr z)) (fun z=>.inr (t4 b z)),fun b hb hc=>hc.elim (fun z=>h5 b hb (g1 b z)) (fun z=>q4 b (t4 b z) (.inl hb))⟩

theorem ah.lend {f:FuncId} {ds ps ds' ps':List A} {r:A} (h:ah P f ds ps r) (hr:Vm.ownd r=true) (hl:pI ds ps ds' ps'):ah P f ds' ps' r:=by
 refine⟨h.1,fun w imm S vs hv hSi himm hS=>?_⟩
 obtain⟨SL,SK,g1,g2,g3,g4,g5,g6⟩:=hl.take vs S hv
 refine Calls.mono' (h.2 w (fun b=>imm b∨SL b) SK vs g4 (fun b hb hc=>hc.elim (hSi b (g2 b hb)) (fun z=>g3 b z hb)) (fun b hb=>hb.elim (himm b) (fun z=>hS b (g1 b z))) (fun b hb=>hS b (g2 b hb))) ?_
 intro e w' hq
 cases e with
 |returned v=>
  obtain⟨imm',T1,T2,q1,q2,q3,q4,q5,q6,q7,q8,q9,q10,q11,q12,q13,q14,q15,q16⟩:=hq
  have hst:∀b o n,tF w w' ds vs b o n→tF w w' ds' vs b o n:=fun b o n h=>h.imp id fun h=>⟨hl.was vs h.1,h.2⟩
  have hL:∀b,SL b→imm' b:=fun b hb=>q1 b (.inr hb)
  have sameL:∀b,SL b→w'.heap[b]? =w.heap[b]? :=fun b hb=>q9 b (hS b (g1 b hb)) (g3 b hb)
  have sameI:∀b,imm b→w'.heap[b]? =w.heap[b]? :=fun b hb=>q9 b (himm b hb) (fun z=>hSi b (g2 b z) hb)
  refine⟨fun b=>imm' b∧¬SL b,fun b=>SL b∨T1 b,T2,fun b hb=>⟨q1 b (.inl hb),fun z=>hSi b (g1 b z) hb⟩,?_,CR.ownd r v T2 hr q3,fun b hb hc=>hb.elim (fun z=>q6 b hc (hL b z)) (fun z=>q4 b z hc),fun b hb hc=>hb.elim hc.2 (fun z=>q5 b z hc.1),fun b hb hc=>q6 b hb hc.1,?_,?_,?_,q10,q11,q12,q13,q14,g6 _ q15 (fun b o n hb hw=>.inr fun q _=>cell?_same (sameL b hb)),KB.mono hst _ _ q16⟩
  ·exact g5 w' imm' _ T1 sameL sameI (fun b hb=>⟨q1 b (.inl hb),fun z=>hSi b (g1 b z) hb⟩) (fun b hb hc=>q5 b hb (hL b hc)) q2
  ·intro b hb
   have:SL b∨(T1 b∨T2 b):=by
    rcases hb with(hb|hb)|hb
    ·exact .inl hb
    ·exact .inr (.inl hb)
    ·exact .inr (.inr hb)
   rcases this with hb|hb
   ·exact⟨sd (hS b (g1 b hb)) q10,.inl (g1 b hb)⟩
   ·exact⟨(q7 b hb).1,(q7 b hb).2.imp (g2 b) id⟩
  ·intro b hb
   obtain⟨h1,h2⟩:=q8 b hb.1
   refine⟨h1,?_⟩
   rcases h2 with(h2|h2)|h2|h2
   ·exact .inl h2
   ·exact absurd h2 hb.2
   ·exact .inr (.inl (g2 b h2))
   ·exact .inr (.inr h2)
  ·intro b hb hno
   exact q9 b hb (fun z=>hno (g2 b z))
 |panicked _=>exact hq
 |outgrown=>exact hq

theorem Dy {x:Option Lam} {cs:List A} {b o:Nat} {S:Set} (h:ai w imm x cs b o S) (hp:cs.all plain=true):ai w imm x cs b o Set.no:=by
 induction cs generalizing o S with
 |nil=>simp only[ai]
 |cons c cs ih=>
  simp only[qzK,qzf] at hp
  simp only[ai] at h⊢
  obtain⟨v,S1,S2,h1,h2,h3,h4,h5,h6⟩:=h
  exact⟨v,Set.no,Set.no,h1,CR.plain hp.1 h2,ih h3 hp.2,Set.le_refl _,Set.le_refl _,Set.no_dis _⟩
theorem gM {C:Ctx}:∀{cs:List A} {tk:List Key} {f:List Key→List W→List A→Pg},(cV C tk cs f).holds σ K→cs.all plain=true
 |[],_,_,_=>rfl
 |c::cs,tk,f,h=>by
  cases c with
  |ref κ g i n=>
   simp only[cV] at h
   split at h
   ·exact h.elim
   ·simp only[Pg.holds] at h
    cases hn:lkN σ.heap κ.1 κ.2 <;> rw[hn] at h <;> simp only[Pg.holds] at h
    ·split at h
     ·simp only[qzK,plain,qzk];exact gM (C:=C) h.2
     ·exact h.elim
    ·split at h
     ·simp only[qzK,plain,qzk];exact gM (C:=C) h.2
     ·exact h.elim
  |lit u=>
   simp only[cV] at h
   simp only[qzK,plain,qzk]
   unfold wi at h
   split at h
   ·obtain⟨o,h⟩:=h;exact gM (C:=C) h
   ·exact gM (C:=C) h
  |tree r=>simp only[cV] at h;simp only[qzK,plain,qzk];exact gM (C:=C) h
  |emp=>simp only[cV] at h;simp only[qzK,plain,qzk];exact gM (C:=C) h
  |inl|obox|optr|mptr|iptr|agg|tup|clo|hole=>simp only[cV] at h;exact h.elim

theorem w8 (h:aD ρ σ a w imm Λ F) {κ:Key} (hh:(rW (au Fn LW IN) κ).holds σ K):∃ws,K ws∧Rel ρ (σ.upd ws) a w:=by
 unfold rW at hh
 obtain⟨nd,hnd,hN,hh⟩:=h.node hh
 cases nd <;> simp only[Pg.holds] at hh
 rename_i g k rows i row
 have hp:=gM (C:=au Fn LW IN) hh
 obtain⟨e1,e2,e3,b,base,size,S1,S2,e4,e5,e6,e7,e8,e9,e10,e11,e12,e13,e14,e15,e16⟩:=hN
 obtain⟨vs,hl,hcell,hv⟩:=(Dy e15 hp).vals
 obtain⟨ks,ws,cs',T,hk,hv',hkills,hks,hnd',hT⟩:=ka h row [κ] vs _ hv hh
 have hκ:κ∉ks:=fun hm=>hks κ hm (by simp)
 have hdT:∀y,T y→¬F κ y:=fun y hy hF=>by
  obtain⟨z,hz,hFz⟩:=hT y hy
  exact h.dis z κ (fun e=>hκ (e▸hz)) y hFz hF
 have hc':ai w imm none cs' b (base+i * k) T:=ai.of_vals hv' hcell
 have hlen:cs'.length=k:=by rw[←hv'.length,hl,e14]
 refine⟨_,hk,imm,cS Λ ks,up (ee F ks) κ (fun y=>F κ y∨T y),?_⟩
 have old:∀x,x≠κ→up (ee F ks) κ (fun y=>F κ y∨T y) x=ee F ks x:=fun x hx=>aN _ _ hx
 refine h.ghost (fun u=>?_) (lc Λ ks) (fun x=>?_) (fun x y hxy z hz hw=>?_) (fun x z hz=>?_) (fun x=>?_)
 rotate_right
 ·rw[St.upd,(hkills _).2 x]
  by_cases e:x=κ
  ·subst e
   rw[if_neg hκ]
   show RSp _ _ (lkN ((x,_)::σ.heap) x.1 x.2)
   rw[aP,if_pos rfl]
   trivial
  ·by_cases hx:x∈ks
   ·rw[if_pos hx];trivial
   ·rw[if_neg hx,show cS Λ ks x=Λ x by simp[cS,hx]]
    show RSp _ _ (lkN ((κ,_)::σ.heap) x.1 x.2)
    rw[aP,if_neg e]
    exact h.rs x
 ·rw[St.upd,(hkills _).1 u];rfl
 ·rw[St.upd,(hkills _).2 x]
  by_cases e:x=κ
  ·subst e
   rw[if_neg hκ,az,show cS Λ ks x=Λ x by simp[cS,hκ]]
   show NR w imm _ _ (lkN ((x,_)::σ.heap) x.1 x.2) _
   rw[aP,if_pos rfl]
   refine⟨e1,e2,by simpa [au] using e3,.inr ⟨b,base,size,fun y=>S2 y∨T y,e4,.inl e5,fun z=>z.elim e7 (fun z=>hdT b z e5),fun y hy=>hy.elim (fun z=>.inl (e9 y z)) .inr,e11,by simpa [au] using e12,?_⟩⟩
   exact aq.join rows base i _ T S2 e13 hlen hc' e16 (fun y hy=>.inr hy) (fun y hy=>.inl hy) (fun y hy hz=>hdT y hy (e9 y hz))
  ·rw[old x e]
   by_cases hx:x∈ks
   ·rw[if_pos hx]
    simp only[cS,if_pos hx]
    exact⟨rfl,rfl⟩
   ·rw[if_neg hx,show cS Λ ks x=Λ x by simp[cS,hx],show ee F ks x=F x by simp[ee,hx]]
    show NR w imm _ _ (lkN ((κ,_)::σ.heap) x.1 x.2) _
    rw[aP,if_neg e]
    exact(h.nodes x).le (lc Λ ks)
 ·have one:∀u v,u=κ→v≠κ→(up (ee F ks) κ (fun y=>F κ y∨T y)) u z→(up (ee F ks) κ (fun y=>F κ y∨T y)) v z→False:=by
   rintro u v rfl hv hu hv'
   rw[az] at hu
   rw[old v hv] at hv'
   rcases hu with hu|hu
   ·exact h.dis u v (Ne.symm hv) z hu (fp F ks v z hv')
   ·obtain⟨q,hq,hF⟩:=hT z hu
    unfold ee at hv'
    split at hv'
    ·exact hv'
    ·rename_i hvk
     exact h.dis q v (fun e=>hvk (e▸hq)) z hF hv'
  by_cases e:x=κ
  ·exact one x y e (fun e'=>hxy (e.trans e'.symm)) hz hw
  ·by_cases e':y=κ
   ·exact one y x e' e hw hz
   ·rw[old x e] at hz
    rw[old y e'] at hw
    exact h.dis x y hxy z (fp F ks x z hz) (fp F ks y z hw)
 ·by_cases e:x=κ
  ·subst e
   rw[az] at hz
   rcases hz with hz|hz
   ·exact⟨x,hz⟩
   ·obtain⟨q,_,hF⟩:=hT z hz;exact⟨q,hF⟩
  ·rw[old x e] at hz;exact⟨x,fp F ks x z hz⟩

theorem dh {C:Ctx} (hC:C=fq P) {τ:St} (κ:Key) (hh:(rW C κ).holds σ fun ws=>Cov (σ.upd ws) τ):Cov σ τ:=by
 subst hC
 rintro ρ a w ⟨imm,Λ,F,h⟩
 obtain⟨ws,hk,hr⟩:=w8 h hh
 exact hk ρ a w hr
end
end Go.Vm
/- What the printed texts lean on. -/
namespace Go.Vm
def fA (a b:ByteArray):Bool:=a.toList==b.toList
def mD (s:ByteArray) (i:Nat):Int:=((s[i]!).toNat:Int)

theorem G3 {P:Program} {E:TE} {C:Ctx} (hC:C=fq P) (hE:EOk P E) (hm:P.follows .mixedOrders=true) {c:Code} {Q:Ex→St→Prop} {σ:St} {ι ξ:Type} (I:ι→St) (Inv:ι→Prop) (μ:ι→Nat) (X:ξ→Ex) (T:ξ→St) (Good:ξ→Prop) (i0:ι) (hi:Inv i0) (h0:∀t,t=i0→Cov σ (I t))
  (rest:∀x,Good x→Q (X x) (T x))
  (round:∀i (N:St→Prop) (D:Ex→St→Prop),Inv i→(∀σ' j,Inv j→μ j<μ i→(∀t,t=j→Cov σ' (I t))→N σ')→(∀σ' x,Good x→(∀t,t=x→Cov σ' (T t))→D (X x) σ')→(∀e σ',Q e σ'→D e σ')→
   wpC E C c (fun e σ'=>match e with| .normal=>N σ'|e=>D e σ') (I i)) (hmk:lJ c=false):C.LW c Q σ:=
 GB hC hE hm I Inv μ X T Good i0 hi (h0 i0 rfl) rest (fun i N D hI hN hD hQ=>round i N D hI (fun σ' j hj hlt hc=>hN σ' j hj hlt (hc j rfl)) (fun σ' x hx hc=>hD σ' x hx (hc x rfl)) hQ) hmk
attribute [simp] fz bv aA
@[simp] theorem Id {α β:Type} (l:List α) (f:α→β):(l.map f).take l.length=l.map f:=qzD (by simp)
/-- a result may be let go of: nobody changes it any more -/
theorem ah.frz {P:Program} {f:FuncId} {ds ps:List A} {r r':A} (h:ah P f ds ps r) (hr:r'=fz r):ah P f ds ps r':=by
 subst hr
 refine⟨h.1,fun w imm S vs hv hSi himm hS=>?_⟩
 refine Calls.mono' (h.2 w imm S vs hv hSi himm hS) ?_
 intro e w' hq
 cases e with
 |returned v=>
  obtain⟨imm',T1,T2,q1,q2,q3,q4,q5,q6,q7,q8,q9,q10,q11,q12,q13,q14,q15,q16⟩:=hq
  refine⟨fun b=>imm' b∨T2 b,T1,Set.no,fun b hb=>.inl (q1 b hb),?_,CR.freeze (fun b hb=>.inl hb) _ _ _ q3 (fun b hb=>.inr hb),fun b _ z=>z.elim,fun b hb hc=>hc.elim (q5 b hb) (q4 b hb),Set.no_dis _,?_,?_,q9,q10,q11,q12,q13,q14,q15,KB.fz [r] [v] q16⟩
  ·exact af.stable (fun b hb=>.inl hb) (fun _ _=>rfl) none none _ _ _ _ trivial (Set.le_refl _) (fun _ _=>rfl) q2
  ·intro b hb;exact q7 b (hb.imp id (fun z=>z.elim))
  ·intro b hb
   rcases hb with hb|hb
   ·exact q8 b hb
   ·exact⟨(q7 b (.inr hb)).1,.inr (q7 b (.inr hb)).2⟩
 |panicked _=>exact hq
 |outgrown=>exact hq
mutual
def frzA:A→A
 | .inl k rows=>.inl k (aA rows)
 | .agg cs=>.agg (frzL cs)
 | .tup cs=>.tup (frzL cs)
 | .lit v=>.lit v
 | .emp=>.emp
 | .tree rows=>.tree rows
 | .obox cs=>.obox cs
 | .optr k rows i=>.optr k rows i
 | .ref κ g i n=>.ref κ g i n
 | .mptr κ g i o=>.mptr κ g i o
 | .iptr r o=>.iptr r o
 | .clo f c=>.clo f c
 | .hole=>.hole
def frzL:List A→List A
 |[]=>[]
 |c::cs=>frzA c::frzL cs
end
attribute [simp] frzA frzL
mutual
theorem CR.frzA {w:World} {imm:Set}:∀(a:A) (v:Value) (S:Set),CR w imm none a v S→∃S1,Set.le S1 S∧∀imm':Set,Set.le imm imm'→(∀b,S b→¬S1 b→imm' b)→CR w imm' none (Vm.frzA a) v S1
 | .inl k rows,v,S,h=>by
  simp only[CR] at h
  obtain⟨a,cap,e,h⟩:=h
  rcases h with⟨rfl,rfl,rfl⟩|⟨b,o,size,S',rfl,h1,h2,h3,h4,h5,h6,h7,h8⟩
  ·exact⟨Set.no,Set.no_le _,fun imm' hi hs=>by simp only[Vm.frzA,CR,aA];exact⟨none,0,e,.inl (by simp)⟩⟩
  ·refine⟨Set.one b,fun x hx=>by rw[show x=b from hx];exact h1,fun imm' hi hs=>?_⟩
   simp only[Vm.frzA,CR]
   refine⟨_,cap,by rw[ge];exact e,.inr ⟨b,o,size,Set.no,rfl,rfl,fun z=>z,Set.no_le _,h4,h5,h6,by rw[ge];exact h7,?_⟩⟩
   exact aq.freeze hi rows b o k S' h8 (fun x hx=>hs x (h3 x hx) (fun e=>h2 (by rw[←show x=b from e];exact hx)))
 | .agg cs,v,S,h=>by
  simp only[CR] at h
  obtain⟨vs,e,hr⟩:=h
  obtain⟨S1,h1,h2⟩:=af.frzL cs vs S hr
  exact⟨S1,h1,fun imm' hi hs=>by simp only[Vm.frzA,CR];exact⟨vs,e,h2 imm' hi hs⟩⟩
 | .tup cs,v,S,h=>by
  simp only[CR] at h
  obtain⟨vs,e,hr⟩:=h
  obtain⟨S1,h1,h2⟩:=af.frzL cs vs S hr
  exact⟨S1,h1,fun imm' hi hs=>by simp only[Vm.frzA,CR];exact⟨vs,e,h2 imm' hi hs⟩⟩
 | .lit v,u,S,h=>⟨S,Set.le_refl _,fun imm' hi hs=>CR.stable hi (fun _ _=>rfl) none none _ _ _ _ trivial (Set.le_refl _) (fun _ _=>rfl) h⟩
 | .emp,u,S,h=>⟨S,Set.le_refl _,fun imm' hi hs=>CR.stable hi (fun _ _=>rfl) none none _ _ _ _ trivial (Set.le_refl _) (fun _ _=>rfl) h⟩
 | .tree _,u,S,h=>⟨S,Set.le_refl _,fun imm' hi hs=>CR.stable hi (fun _ _=>rfl) none none _ _ _ _ trivial (Set.le_refl _) (fun _ _=>rfl) h⟩
 | .obox _,u,S,h=>⟨S,Set.le_refl _,fun imm' hi hs=>CR.stable hi (fun _ _=>rfl) none none _ _ _ _ trivial (Set.le_refl _) (fun _ _=>rfl) h⟩
 | .optr _ _ _,u,S,h=>⟨S,Set.le_refl _,fun imm' hi hs=>CR.stable hi (fun _ _=>rfl) none none _ _ _ _ trivial (Set.le_refl _) (fun _ _=>rfl) h⟩
 | .ref ..,u,S,h=>by simp only[CR] at h
 | .mptr ..,u,S,h=>by simp only[CR] at h
 | .iptr _ _,u,S,h=>⟨S,Set.le_refl _,fun imm' hi hs=>CR.stable hi (fun _ _=>rfl) none none _ _ _ _ trivial (Set.le_refl _) (fun _ _=>rfl) h⟩
 | .clo _ _,u,S,h=>⟨S,Set.le_refl _,fun imm' hi hs=>CR.stable hi (fun _ _=>rfl) none none _ _ _ _ trivial (Set.le_refl _) (fun _ _=>rfl) h⟩
 | .hole,u,S,h=>⟨S,Set.le_refl _,fun imm' hi hs=>by simp only[Vm.frzA,CR]⟩
theorem af.frzL {w:World} {imm:Set}:∀(cs:List A) (vs:List Value) (S:Set),af w imm none cs vs S→∃S1,Set.le S1 S∧∀imm':Set,Set.le imm imm'→(∀b,S b→¬S1 b→imm' b)→af w imm' none (Vm.frzL cs) vs S1
 |[],[],S,_=>⟨S,Set.le_refl _,fun _ _ _=>by simp only[Vm.frzL,af]⟩
 |[],_::_,S,h=>by simp only[af] at h
 |_::_,[],S,h=>by simp only[af] at h
 |c::cs,v::vs,S,h=>by
  simp only[af] at h
  obtain⟨A1,A2,h1,h2,l1,l2,dj⟩:=h
  obtain⟨B1,k1,m1⟩:=CR.frzA c v A1 h1
  obtain⟨B2,k2,m2⟩:=af.frzL cs vs A2 h2
  refine⟨fun b=>B1 b∨B2 b,fun b hb=>hb.elim (fun z=>l1 b (k1 b z)) (fun z=>l2 b (k2 b z)),fun imm' hi hs=>?_⟩
  simp only[Vm.frzL,af]
  exact⟨B1,B2,m1 imm' hi (fun b hb hn=>hs b (l1 b hb) (fun z=>z.elim hn (fun z=>dj b hb (k2 b z)))),m2 imm' hi (fun b hb hn=>hs b (l2 b hb) (fun z=>z.elim (fun z=>dj b (k1 b z) hb) hn)),fun b z=>.inl z,fun b z=>.inr z,fun b z z'=>dj b (k1 b z) (k2 b z')⟩
end
theorem KB.frzL {p:Nat→Nat→Nat→Prop}:∀(cs:List A) (us:List Value),KB p cs us→KB p (Vm.frzL cs) us
 |[],us,_=>by cases us <;> simp only[Vm.frzL,KB]
 |c::cs,[],_=>KB.nil
 |c::cs,u::us,h=>by
  have ih:=KB.frzL cs us h.tail
  cases c <;> simp only[Vm.frzL,Vm.frzA,KB] at h⊢ <;> try exact ih
  ·exact⟨h.1,ih⟩
  ·exact⟨fun vs e=>KB.frzL _ vs (h.1 vs e),ih⟩
  ·exact⟨fun vs e=>KB.frzL _ vs (h.1 vs e),ih⟩
 termination_by cs=>SizeOf.sizeOf cs
/-- what a result's rows hold may be let go of -/
theorem ah.frzIn {P:Program} {f:FuncId} {ds ps:List A} {r r':A} (h:ah P f ds ps r) (hr:r'=frzA r):ah P f ds ps r':=by
 subst hr
 refine⟨h.1,fun w imm S vs hv hSi himm hS=>?_⟩
 refine Calls.mono' (h.2 w imm S vs hv hSi himm hS) ?_
 intro e w' hq
 cases e with
 |returned v=>
  obtain⟨imm',T1,T2,q1,q2,q3,q4,q5,q6,q7,q8,q9,q10,q11,q12,q13,q14,q15,q16⟩:=hq
  obtain⟨S1,l1,m1⟩:=CR.frzA _ _ _ q3
  refine⟨fun b=>imm' b∨(T2 b∧¬S1 b),T1,S1,fun b hb=>.inl (q1 b hb),?_,m1 _ (fun b hb=>.inl hb) (fun b hb hn=>.inr ⟨hb,hn⟩),fun b hb hc=>q4 b hb (l1 b hc),fun b hb hc=>hc.elim (q5 b hb) (fun z=>q4 b hb z.1),fun b hb hc=>hc.elim (q6 b (l1 b hb)) (fun z=>z.2 hb),?_,?_,q9,q10,q11,q12,q13,q14,q15,KB.frzL [r] [v] q16⟩
  ·exact af.stable (fun b hb=>.inl hb) (fun _ _=>rfl) none none _ _ _ _ trivial (Set.le_refl _) (fun _ _=>rfl) q2
  ·intro b hb;exact q7 b (hb.imp id (l1 b))
  ·intro b hb
   rcases hb with hb|hb
   ·exact q8 b hb
   ·exact⟨(q7 b (.inr hb.1)).1,.inr (q7 b (.inr hb.1)).2⟩
 |panicked _=>exact hq
 |outgrown=>exact hq
theorem yt (n:Nat):(NatCast.natCast n:Int)=(n:Int):=rfl
end Go.Vm
/- Arguments that are read, as data. -/
namespace Go.Vm

def mP (E:TE):Nat→List (Nat×Nat)→Nat→Bool
 |o,[],n=>Nat.beq o n
 |o,(p,u)::fs,n=>if Nat.beq p o then mP E (o+(E.info u).size) fs n else false
/-- types of numbers, bools, strings, slices and structs of each other -/
def Ha (E:TE) (S:List Nat):Bool:=S.all fun t=>match(E.info t).td with
 | .int _=>true
 | .bool=>true
 | .str=>true
 | .slice e=>ni e S&& !(Nat.beq (E.info e).size 0)
 | .struct fs=>fs.all (fun f=>ni f.2 S)&&mP E 0 fs (E.info t).size
 |_=>false

def ShF (R:Nat→List A→Prop):List (Nat×Nat)→List A→Prop
 |[],cs=>cs=[]
 |(_,u)::fs,cs=>∃p q,cs=p++q∧R u p∧ShF R fs q
def Sh (E:TE):Nat→Nat→List A→Prop
 |0,_,_=>False
 |n+1,t,cs=>match(E.info t).td with
  | .int k=>∃m,cs=[.lit (.int k m)]∧(Lit.int k m).wf=true
  | .bool=>∃b,cs=[.lit (.bool b)]
  | .str=>∃s:ByteArray,cs=[.lit (.string s)]∧s.size≤reachBytes
  | .slice e=>∃rows:Rows,cs=[.tree rows]∧rows.length * (E.info e).bytes≤reachBytes∧∀r∈rows,Sh E n e r
  | .struct fs=>ShF (Sh E n) fs cs
  |_=>False

section
variable {H:Type} {enc:TypeId×Value→H} {P:Program} {E:TE} {w:World}

theorem uA {α:Type} {Q:Nat→α→Prop}:∀(n:Nat),(∀i,i<n→∃x,Q i x)→∃xs:List α,xs.length=n∧∀i x,xs[i]? =some x→Q i x
 |0,_=>⟨[],rfl,by simp⟩
 |n+1,h=>by
  obtain⟨xs,hl,hx⟩:=uA n (fun i hi=>h i qom)
  obtain⟨x,hq⟩:=h n qom
  refine⟨xs++[x],by simp[hl],fun i y hy=>?_⟩
  rw[List.getElem?_append] at hy
  split at hy
  ·exact hx i y hy
  ·rename_i hi
   have:i=n:=by
    rcases qzM (i-xs.length) 1 with h1|h1
    ·omega
    ·rw[qzR (by simpa using h1)] at hy;cases hy
   subst this
   rw[hl] at hy
   simp at hy
   subst hy;exact hq

theorem Di {b k:Nat} {imm:Set}:∀(rows:Rows) (o:Nat),(∀i r,rows[i]? =some r→r.length=k∧ai w imm none r b (o+i * k) Set.no)→aq w imm none rows b o k Set.no
 |[],_,_=>by simp only[aq]
 |r::rs,o,h=>by
  simp only[aq]
  obtain⟨h1,h2⟩:=h 0 r rfl
  refine⟨Set.no,Set.no,h1,by simpa using h2,Di rs (o+k) (fun i q hq=>?_),Set.le_refl _,Set.le_refl _,Set.no_dis _⟩
  obtain⟨g1,g2⟩:=h (i+1) q (by simpa using hq)
  refine⟨g1,?_⟩
  rw[show o+k+i * k=o+(i+1) * k by rw[qzJ];omega]
  exact g2

theorem qn {e:TypeId}:∀{ds:List (DataW H)} {i:Nat} {d:DataW H},ds[i]? =some d→∀n∈d.weights P e,n∈DataW.weightsAll P e ds
 |d0::ds,0,d,h,n,hn=>by simp at h;subst h;simp[DataW.weightsAll,hn]
 |d0::ds,i+1,d,h,n,hn=>by simp at h;simp[DataW.weightsAll,qn h n hn]
 |[],_,_,h,_,_=>by simp at h

theorem af.app {imm:Set}:∀{cs ds:List A} {vs us:List Value},af w imm none cs vs Set.no→af w imm none ds us Set.no→af w imm none (cs++ds) (vs++us) Set.no:=
 fun h1 h2=>af.append h1 h2

theorem xI (hE:EOk P E) {S:List Nat} (hS:Ha E S=true):∀(fuel t:Nat) (cs:List Value) (x:DataW H×List MemPlace),t∈S→DataW.trod enc P w 0 (fun _=>true) true fuel t cs=some x→
  (∀n∈x.1.weights P t,n≤reachBytes)→∃as,Sh E fuel t as∧af w (fun b=>b<w.heap.size) none as cs Set.no
 |0,t,cs,x,_,h,_=>by simp[DataW.trod] at h
 |fuel+1,t,cs,x,ht,h,hw=>by
  have hs:=qzN.1 hS t ht
  have hone:∀v u,CR w (fun b=>b<w.heap.size) none v u Set.no→af w (fun b=>b<w.heap.size) none [v] [u] Set.no:=fun v u h=>af.of_one h
  cases htd:(E.info t).td with
  |int k=>
   obtain⟨i,d,z,_,_,_,hd,htd',_⟩:=hE t (.inr (by rw[htd];rfl))
   rw[htd] at htd'
   cases d <;> simp only[ez] at htd'
   rw[htd'] at hd
   obtain⟨n,rfl,rfl,hwf⟩:=DataW.trod_int hd h
   exact⟨[.lit (.int k n)],by simp only[Sh,htd];exact⟨n,rfl,hwf⟩,hone _ _ (by simp only[CR])⟩
  |bool=>
   obtain⟨i,d,z,_,_,_,hd,htd',_⟩:=hE t (.inr (by rw[htd];rfl))
   rw[htd] at htd'
   cases d <;> simp only[ez] at htd'
   obtain⟨n,rfl,rfl⟩:=DataW.trod_bool hd h
   exact⟨[.lit (.bool n)],by simp only[Sh,htd];exact⟨n,rfl⟩,hone _ _ (by simp only[CR])⟩
  |str=>
   obtain⟨i,d,z,_,_,_,hd,htd',_⟩:=hE t (.inr (by rw[htd];rfl))
   rw[htd] at htd'
   cases d <;> simp only[ez] at htd'
   obtain⟨s,rfl,rfl,_⟩:=DataW.trod_string hd h
   have hsz:s.size≤reachBytes:=by
    have h0:=hw s.data.toList.length (List.mem_singleton.2 rfl)
    rw[Array.length_toList] at h0
    exact h0
   exact⟨[.lit (.string s)],by simp only[Sh,htd];exact⟨s,rfl,hsz⟩,hone _ _ (by simp only[CR])⟩
  |slice e=>
   rw[htd] at hs
   simp only[qzf,rt,tg] at hs
   obtain⟨he,hz⟩:=hs
   obtain⟨i,d,z,_,_,_,hd,htd',_⟩:=hE t (.inr (by rw[htd];rfl))
   rw[htd] at htd'
   cases d <;> simp only[ez] at htd'
   rename_i e'
   subst htd'
   have hz':(E.info e').size≠0:=by intro h;rw[h] at hz;simp at hz
   obtain⟨ie,de,ze,hie,hsz,hby,_⟩:=hE e' (.inl hz')
   have hco:P.cellsOf e'=(E.info e').size:=by simp[Program.cellsOf,hie,hsz]
   have hbo:P.bytesOf e'=(E.info e').bytes:=by simp[Program.bytesOf,hie,hby]
   rcases DataW.trod_slice hd h with⟨rfl,rfl⟩|⟨a,len,cap,elems,rest,n,hfuel,rfl,rfl,_,hlc,_,hel,hget,_,_⟩
   ·exact⟨[.tree []],by simp only[Sh,htd];exact⟨[],rfl,by simp[reachBytes],by simp⟩,hone _ _ (by simp only[CR];exact⟨none,0,by simp,qzi _,.inl trivial⟩)⟩
   ·obtain rfl:fuel=n:=by omega
    have hwt:∀m,m∈(elems.map (·.1)).length * 1::[]→True:=fun _ _=>trivial
    have hwhole:(elems.length+rest.length) * P.bytesOf e'≤reachBytes:=hw _ (by simp[DataW.weights,hd])
    have hq:∀i,i<len→∃row:List A,Sh E fuel e' row∧∃vs:List Value,w.cells? 0 (a.add (i * P.cellsOf e')) (P.cellsOf e')=some vs∧af w (fun b=>b<w.heap.size) none row vs Set.no:=by
     intro i hi
     have hg:=hget i hi
     have hlt:i<elems.length:=by omega
     rw[qzc hlt] at hg
     obtain⟨vs,hvs,hg⟩:=Option.bind_eq_some_iff.1 hg
     obtain⟨row,h1,h2⟩:=xI hE hS fuel e' vs _ he hg (fun m hm=>hw m (by
      simp only[DataW.weights,hd,qzo,List.mem_append]
      right;left
      exact qn (i:=i) (d:=elems[i].1) (by simp[hlt]) m hm))
     exact⟨row,h1,vs,hvs,h2⟩
    obtain⟨rows,hrl,hrows⟩:=uA len hq
    refine⟨[.tree rows],?_,hone _ _ ?_⟩
    ·simp only[Sh,htd]
     refine⟨rows,rfl,?_,fun r hr=>?_⟩
     ·rw[hrl,←hel,←hbo]
      exact qzz (qzp _ qom) hwhole
     ·obtain⟨i,hi⟩:=List.mem_iff_getElem?.1 hr
      exact(hrows i r hi).1
    ·simp only[CR]
     refine⟨some a,cap,by rw[hrl],by omega,?_⟩
     rcases yx len with h0|hpos
     ·left;exact qzA qom
     ·right
      obtain⟨r0,hr0⟩:∃r,rows[0]? =some r:=⟨rows[0],by simp⟩
      obtain⟨_,vs0,hvs0,_⟩:=hrows 0 r0 hr0
      obtain⟨_,hl0,hc0⟩:=World.cells?_some hvs0
      have hu:∃u,w.cell? a=some u:=by
       have h00:=hc0 0 (by rw[hco];exact Nat.pos_of_ne_zero hz')
       rw[show(a.add (0 * P.cellsOf e')).add 0=a by simp[Addr.add],qzc (by rw[hl0,hco];exact Nat.pos_of_ne_zero hz')] at h00
       exact⟨_,h00⟩
      obtain⟨u,hu⟩:=hu
      have hspot:a.spot=none∧a.block<w.heap.size:=by
       unfold World.cell? at hu
       split at hu
       ·rename_i c q r hc
        split at hu
        ·cases hu
        ·rename_i hsp
         refine⟨by simpa using hsp,?_⟩
         rcases qzM a.block w.heap.size with h1|h1
         ·exact h1
         ·rw[AP h1] at hc;cases hc
       ·cases hu
      obtain⟨bb,oo,sp⟩:=a
      simp only at hspot
      obtain⟨rfl,hlt⟩:=hspot
      refine⟨bb,oo,(E.info e').size,rfl,hlt,Di rows oo fun i r hi=>?_⟩
      obtain⟨_,vs,hvs,hv⟩:=hrows i r hi
      obtain⟨_,hl,hc⟩:=World.cells?_some hvs
      refine⟨by rw[←hv.length,hl,hco],ai.of_vals hv fun j hj=>?_⟩
      rw[←hc j qom,hco,Addr.add_mk,Addr.add_mk]
  |struct fs=>
   rw[htd] at hs
   simp only[qzf] at hs
   obtain⟨hfs,hoff⟩:=hs
   obtain⟨i,d,z,hi,hsz,_,hd,htd',_⟩:=hE t (.inr (by rw[htd];rfl))
   rw[htd] at htd'
   cases d <;> simp only[ez] at htd'
   rename_i fields
   obtain⟨xs,n,hfuel,rfl,hlen,hxl,hget⟩:=DataW.trod_struct hd h
   obtain rfl:fuel=n:=by omega
   have hct:P.cellsOf t=(E.info t).size:=by simp[Program.cellsOf,hi,hsz]
   have key:∀(l:List (Nat×Nat)) (j o:Nat),(∀q,l[q]? =fs[j+q]?)→mP E o l (E.info t).size=true→o≤cs.length→
     ∃as,ShF (Sh E fuel) l as∧af w (fun b=>b<w.heap.size) none as (cs.drop o) Set.no:=by
    intro l
    induction l with
    |nil=>
     intro j o _ ho _
     simp only[mP] at ho
     have:o=(E.info t).size:=qzW ho
     refine⟨[],rfl,?_⟩
     rw[this,←hct,←hlen,List.drop_length]
     simp only[af]
    |cons f l ih=>
     obtain⟨p,u⟩:=f
     intro j o hq ho hle
     simp only[mP] at ho
     split at ho
     ·rename_i hp
      obtain rfl:=qzW hp
      have hj:fs[j]? =some (p,u):=by have:=hq 0;simpa using this.symm
      have hu:u∈S:=by
       have:=qzN.1 hfs (p,u) (qzI hj)
       simpa [rt] using this
      have hfj:∃f:Field,fields[j]? =some f∧f.offset=p∧f.type=u:=by
       rw[←htd'] at hj
       simp only[qzC,sv,qzY] at hj
       obtain⟨f,hf,e⟩:=hj
       cases e
       exact⟨f,hf,rfl,rfl⟩
      obtain⟨f,hf,rfl,rfl⟩:=hfj
      have hg:=hget j f hf
      have hjl:j<xs.length:=by rw[hxl];rcases qzM j fields.size with h1|h1;exact h1;rw[AP h1] at hf;cases hf
      rw[qzc hjl] at hg
      obtain⟨as,h1,h2⟩:=xI hE hS fuel f.type _ _ hu hg (fun m hm=>hw m (by
       simp only[DataW.weights,hd]
       refine DataW.weights_mem_each (j:=j) (t:=f.type) (d:=xs[j].1) ?_ ?_ m hm
       ·simp[hf]
       ·simp[hjl]))
      -- how many cells it has
      have hsu:P.cellsOf f.type=(E.info f.type).size:=by
       have hs':=qzN.1 hS f.type hu
       have hno:iK (E.info f.type).td=false:=by cases hq:(E.info f.type).td <;> rw[hq] at hs' <;> first|rfl|cases hs'
       obtain⟨iu,_,_,hiu,hsu,_⟩:=hE f.type (.inr hno)
       simp[Program.cellsOf,hiu,hsu]
      have hle2:f.offset+(E.info f.type).size≤cs.length:=by
       have:∀(l:List (Nat×Nat)) (o:Nat),mP E o l (E.info t).size=true→o≤(E.info t).size:=by
        intro l
        induction l with
        |nil=>intro o h;simp only[mP] at h;exact Nat.le_of_eq (qzW h)
        |cons g l ih=>
         intro o h
         simp only[mP] at h
         split at h
         ·have:=ih _ h;omega
         ·cases h
       have:=this l _ ho
       rw[hlen,hct];exact this
      obtain⟨bs,g1,g2⟩:=ih (j+1) (f.offset+(E.info f.type).size) (fun q=>by have:=hq (q+1);simpa [tq,Nat.add_comm 1 q] using this) ho hle2
      refine⟨as++bs,⟨as,bs,rfl,h1,g1⟩,?_⟩
      have:cs.drop f.offset=(cs.drop f.offset).take (P.cellsOf f.type)++cs.drop (f.offset+(E.info f.type).size):=by
       rw[hsu,←List.drop_drop]
       exact(List.take_append_drop _ _).symm
      rw[this]
      exact af.app h2 g2
     ·cases ho
   obtain⟨as,h1,h2⟩:=key fs 0 0 (fun q=>by simp) hoff (Nat.zero_le _)
   exact⟨as,by simp only[Sh,htd];exact h1,by simpa using h2⟩
  |ptr e=>rw[htd] at hs;cases hs
  |other=>rw[htd] at hs;cases hs

theorem BK {α:Type} {c:α→List A} {W:α→Prop}:∀{rows:Rows},(∀r∈rows,∃x,r=c x∧W x)→∃l:List α,rows=l.map c∧∀x∈l,W x
 |[],_=>⟨[],rfl,by simp⟩
 |r::rs,h=>by
  obtain⟨x,e,w⟩:=h r (by simp)
  obtain⟨l,e2,w2⟩:=BK (rows:=rs) (fun q hq=>h q (qzv _ hq))
  refine⟨x::l,by rw[e,e2];rfl,fun y hy=>?_⟩
  rcases qzo.1 hy with hy|hy
  ·rw[hy];exact w
  ·exact w2 y hy
end
end Go.Vm
/- Short forms for printed texts. -/
namespace Go.Vm
abbrev iA (n:Int):A:=.lit (.int .i64 n)
abbrev bA (b:Bool):A:=.lit (.bool b)
abbrev sA (s:ByteArray):A:=.lit (.string s)
abbrev tA (r:Rows):A:=.tree r
abbrev oA (k:Nat) (r:Rows):A:=.inl k r
abbrev hA:A:=.hole
/-- runs of one number, once each -/
def uniq:List Int→List Int
 |[]=>[]
 |[x]=>[x]
 |x::y::l=>if x=y then uniq (y::l) else x::uniq (y::l)
@[simp] theorem mnot (b:Bool):(cond.match_1 (fun _=>Bool) b (fun _=>false) (fun _=>true))= !b:=by cases b <;> rfl
@[simp] theorem fzm (l:Rows):(aA.match_1 (fun _=>Rows) l (fun _=>[]) (fun r rs=>bv r::aA rs))=aA l:=by cases l <;> rfl
@[simp] theorem Ei:∀(l:Rows) (i:Nat) (r:List A),aA (l.set i r)=(aA l).set i (bv r)
 |[],_,_=>by simp[aA]
 |_::_,0,_=>by simp[aA]
 |_::l,i+1,r=>by simp[aA,Ei l i r]
@[simp] theorem D4:∀(l l':Rows),aA (l++l')=aA l++aA l'
 |[],_=>by simp[aA]
 |_::l,l'=>by simp[aA,D4 l l']
@[simp] theorem ID {α β:Type} (l:List α) (f:α→β) (i:Nat) (r:β):((l.map f).set i r).take l.length=(l.map f).set i r:=qzD (by simp)
/-- a test, both ways -/
theorem bcs {t:Bool} {X Y:Prop} (h1:t=true→X) (h2:t=false→Y):(match(generalizing:=false) t with|true=>X|false=>Y):=by
 cases t
 ·exact h2 rfl
 ·exact h1 rfl
theorem ifT {α:Type} {c:Prop} [Decidable c] {x y:Option α} {r:α} {t:Bool} (hh:(if c then x else y)=some r) (f:t=true)
  (k:t=true→c:=by intro f;cases hC;cases hQ;first|exact of_decide_eq_true f|exact eq_of_beq f|exact f|(simp at f⊢;first|done|with_reducible omega|exact f)):x=some r:=by
 rw[if_pos (k f)] at hh;exact hh
theorem ifF {α:Type} {c:Prop} [Decidable c] {x y:Option α} {r:α} {t:Bool} (hh:(if c then x else y)=some r) (f:t=false)
  (k:t=false→¬c:=by intro f;cases hC;cases hQ;first|exact of_decide_eq_false f|exact ne_of_beq_false f|exact Bool.eq_false_iff.1 f|(simp at f⊢;first|done|with_reducible omega|exact f)):y=some r:=by
 rw[if_neg (k f)] at hh;exact hh
/-- a k9 from below -/
theorem Nb {t:Bool} {c:Prop} (h:c) (k:c→t=false:=by intro h;cases hC;cases hQ;exact decide_eq_false (Int.not_lt.2 (by first|with_reducible exact h|with_reducible omega|(simp;done)|(simp;with_reducible omega)|(simp at h⊢;with_reducible omega)|(simp at h⊢;exact h)|(simp at h⊢;simp only[yt] at *;with_reducible omega)))):t=false:=k h
/-- a k9 from above -/
theorem Mb {t:Bool} {c:Prop} (h:c) (k:c→t=true:=by intro h;cases hC;cases hQ;exact decide_eq_true (by first|with_reducible exact h|with_reducible omega|(simp;done)|(simp;with_reducible omega)|(simp at h⊢;with_reducible omega)|(simp at h⊢;exact h)|(simp at h⊢;simp only[yt] at *;with_reducible omega))):t=true:=k h
/-- what is wanted, from what is known -/
theorem Wb {c g:Prop} (h:c) (k:c→g:=by intro h;cases hC;cases hQ;first|with_reducible exact h|(simp;done)|(simp at h⊢;with_reducible exact h)|(simp;with_reducible omega)|(simp at h⊢;with_reducible omega)|(simp at h⊢;exact h)|(simp at h⊢;simp only[yt] at *;with_reducible omega)):g:=k h
/-- a row that was read -/
theorem Gb {α:Type} {l:List α} {i:Nat} {e:α} {g:Prop} (h:l[i]? =some e) (k:l[i]? =some e→g:=by intro h;cases hC;cases hQ;first|(simp[h];done)|(simp at h⊢;simp[h];done)|(have q:=congrArg (Option.map fun x=>[A.lit (.int .i64 x)]) h;rw[←qzC] at q;simpa [List.map] using q)|(have q:=congrArg (Option.map fun x:ByteArray=>[A.lit (.string x)]) h;rw[←qzC] at q;simpa [List.map] using q)|(have q:=congrArg (Option.map c_Int) h;rw[←qzC] at q;simpa using q)|(have q:=congrArg (Option.map c_GOcc) h;rw[←qzC] at q;simpa using q)|(have q:=congrArg (Option.map c_GOccO) h;rw[←qzC] at q;simpa using q)|(have q:=congrArg (Option.map c_GEv) h;rw[←qzC] at q;simpa using q)|(have q:=congrArg (Option.map c_GEx) h;rw[←qzC] at q;simpa using q)|(have q:=congrArg (Option.map ou) h;rw[←qzC] at q;simpa using q)|(have q:=congrArg (Option.map c_Bool) h;rw[←qzC] at q;simpa using q)):g:=k h
theorem Gb2 {α:Type} {l:List α} {i:Nat} {e:α} {c g:Prop} (h:l[i]? =some e) (h2:c) (k:l[i]? =some e→c→g:=by intro h h2;cases hC;cases hQ;first|(simp[h2];done)|(simp[h,h2];done)):g:=k h h2
theorem Zb {g:Prop} (k:g:=by cases hC;cases hQ;(repeat' apply And.intro) <;> first|trivial|(with_reducible rfl)|(simp;done)|rfl|(simp <;> first|rfl|with_reducible omega|grind)|(simp[*];done)):g:=k
theorem Ob {g:Prop} (k:g:=by cases hC;cases hQ;first|(simp;done)|(simp;first|with_reducible omega|(simp only[yt] at *;with_reducible omega))):g:=k
/-- of all rows -/
theorem Ab {g:Prop} (k:g:=by cases hC;cases hQ;first|(simp[plain,fV];done)|(simp[plain,fV];intro r hr;have qm:=vj (tn hr);simp at qm;obtain⟨a,_,rfl⟩:=qm;simp[plain,fV])):g:=k
theorem Eb {g:Prop} (k:g:=by subst hr hp;cases hh;cases hC;cases hQ;(repeat' apply And.intro) <;> first|trivial|(with_reducible rfl)|(simp;done)|rfl|(simp <;> first|rfl|with_reducible omega|grind)|(simp[*];done)):g:=k
/-- an atom, from a test that is known -/
theorem Tb {c:Prop} {g:Prop} (h:c) (k:c→g:=by intro h;cases hC;cases hQ;first|exact decide_eq_true h|exact beq_iff_eq.2 h|exact h|(simp;done)|(simp;with_reducible omega)|(simp at h⊢;with_reducible omega)|(simp at h⊢;exact h)|(simp at h⊢;simp only[yt] at *;with_reducible omega)):g:=k h
theorem Fb {c:Prop} {g:Prop} (h:¬c) (k:¬c→g:=by intro h;cases hC;cases hQ;first|exact decide_eq_false h|exact beq_false_of_ne h|exact Bool.eq_false_iff.2 h|(simp;done)|(simp;with_reducible omega)|(simp at h⊢;with_reducible omega)|(simp at h⊢;exact h)|(simp at h⊢;simp only[yt] at *;with_reducible omega)):g:=k h
/-- a call -/
theorem ak {P:Program} {Fn:FuncId→List A→List A→A→Prop} (hF:∀f ds ds' post r,ah P f ds' post r→ds=ds'→Fn f ds post r) {K:List A→A→Prop} {f:FuncId} {ds ds' post:List A} {r:A} (h:ah P f ds' post r) (k:K post r)
  (e:ds=ds':=by cases hC;cases hQ;first|(simp;done)|(simp;rfl)|(simp;exact qzD (by simp))):∃post r,Fn f ds post r∧K post r:=⟨post,r,hF f ds ds' post r h e,k⟩
/-- a loop whose rounds are those of a plain function -/
theorem Cg {P:Program} {E:TE} {C:Ctx} (hC:C=fq P) (hE:EOk P E) (hm:P.follows .mixedOrders=true) {c:Code} {Q:Ex→St→Prop} {σ:St} {ι ξ ρ:Type} (L:Nat→ι→Option ρ) (I:ι→St) (T:ξ→St) (G:ξ→ρ) (X:Ex) {n0:Nat} {i0:ι} {o:ρ}
  (hl:L n0 i0=some o) (hz:∀i,L 0 i=none) (h0:∀t,t=i0→Cov σ (I t)) (rest:∀x,o=G x→Q X (T x))
  (round:∀(n:Nat) (i:ι) (N:St→Prop) (D:Ex→St→Prop),L (n+1) i=some o→(∀j σ',L n j=some o→(∀t,t=j→Cov σ' (I t))→N σ')→(∀x σ',some (G x)=some o→(∀t,t=x→Cov σ' (T t))→D X σ')→(∀e σ',Q e σ'→D e σ')→
   wpC E C c (fun e σ'=>match e with| .normal=>N σ'|e=>D e σ') (I i)) (hmk:lJ c=false:=by rfl):C.LW c Q σ:=by
 refine G3 hC hE hm (fun s:Nat×ι=>I s.2) (fun s=>L s.1 s.2=some o) (fun s=>s.1) (fun _=>X) T (fun x=>o=G x) (n0,i0) hl (fun t e=>h0 t.2 (by rw[e])) rest ?_ hmk
 rintro⟨n,i⟩ N D hh hN hD hQ
 cases n with
 |zero=>exact absurd ((hz i).symm.trans hh) (by simp)
 |succ n=>
  exact round n i N D hh (fun j σ' h hc=>hN σ' (n,j) h (Nat.lt_succ_self _) fun t e=>by rw[e];exact hc j rfl) (fun x σ' h hc=>hD σ' x (by simpa using h.symm) hc) hQ

end Go.Vm
/- Calls that are followed into the function's code: its frame stands beside the caller's. -/
namespace Go.Vm
def vK:Nat→List A→List (Nat×A)
 |_,[]=>[]
 |i,a::as=>(i,a)::vK (i+1) as
def mL:List (Nat×A)→List (Nat×A)
 |[]=>[]
 |(t,a)::l=>(t+2000000,a)::mL l
/-- the callee's frame: what it was handed; the caller's slots lie iM -/
def qj (σ:St) (as:List A):St:=⟨vK 0 as++mL σ.slots,σ.heap⟩
def iV (d:Option Nat) (t:Nat):Nat:=match d with
 |some d'=>cond (Nat.beq t d') 1999999 (t+2000000)
 |none=>t+2000000
def nP (d:Option Nat):List (Nat×A)→List (Nat×A)
 |[]=>[]
 |(t,a)::l=>(iV d t,a)::nP d l
def wsS (f:Nat→A):List (Nat×A)→List W
 |[]=>[]
 |(t,_)::l=>.s t (f t)::wsS f l
def wsN (f:Nat→Nat→HN):List (Key×HN)→List W
 |[]=>[]
 |((i,j),_)::l=>.n (i,j) (f i j)::wsN f l
/-- the caller's state once more -/
def Bj (σ τ:St):List W:=wsS (lkS τ.slots) σ.slots++(wsS (lkS τ.slots) τ.slots++(wsN (lkN τ.heap) σ.heap++wsN (lkN τ.heap) τ.heap))
theorem qg (f:Nat→A):∀(l:List (Nat×A)) (σ:St) (t:Nat),(lkS (σ.upd (wsS f l)).slots t=f t∨(lkS (σ.upd (wsS f l)).slots t=lkS σ.slots t∧∀x∈l,x.1≠t))∧(σ.upd (wsS f l)).heap=σ.heap
 |[],σ,t=>⟨.inr ⟨rfl,fun x hx=>by simp at hx⟩,rfl⟩
 |(u,a)::l,σ,t=>by
  obtain⟨h1,h2⟩:=qg f l (σ.upd1 (.s u (f u))) t
  refine⟨?_,h2⟩
  show(lkS ((σ.upd1 (.s u (f u))).upd (wsS f l)).slots t=f t∨_)
  rcases h1 with h1|⟨h1,h3⟩
  ·exact .inl h1
  ·have e:lkS (σ.upd1 (.s u (f u))).slots t=if t=u then f u else lkS σ.slots t:=rfl
   rw[e] at h1
   by_cases c:t=u
   ·subst c;rw[if_pos rfl] at h1;exact .inl h1
   ·rw[if_neg c] at h1
    refine .inr ⟨h1,fun x hx=>?_⟩
    rcases qzo.1 hx with rfl|hx
    ·exact fun e=>c e.symm
    ·exact h3 x hx
theorem pV (f:Nat→Nat→HN):∀(l:List (Key×HN)) (σ:St) (κ:Key),(lkN (σ.upd (wsN f l)).heap κ.1 κ.2=f κ.1 κ.2∨(lkN (σ.upd (wsN f l)).heap κ.1 κ.2=lkN σ.heap κ.1 κ.2∧∀x∈l,x.1≠κ))∧(σ.upd (wsN f l)).slots=σ.slots
 |[],σ,κ=>⟨.inr ⟨rfl,fun x hx=>by simp at hx⟩,rfl⟩
 |((i,j),n)::l,σ,κ=>by
  obtain⟨h1,h2⟩:=pV f l (σ.upd1 (.n (i,j) (f i j))) κ
  refine⟨?_,h2⟩
  show(lkN ((σ.upd1 (.n (i,j) (f i j))).upd (wsN f l)).heap κ.1 κ.2=f κ.1 κ.2∨_)
  rcases h1 with h1|⟨h1,h3⟩
  ·exact .inl h1
  ·have e:lkN (σ.upd1 (.n (i,j) (f i j))).heap κ.1 κ.2=if κ=(i,j) then f i j else lkN σ.heap κ.1 κ.2:=aP _ _ _ _
   rw[e] at h1
   by_cases c:κ=(i,j)
   ·subst c;rw[if_pos rfl] at h1;exact .inl h1
   ·rw[if_neg c] at h1
    refine .inr ⟨h1,fun x hx=>?_⟩
    rcases qzo.1 hx with rfl|hx
    ·exact fun e=>c e.symm
    ·exact h3 x hx
theorem uT:∀{l:List (Nat×A)} {t:Nat},(∀x∈l,x.1≠t)→lkS l t= .hole
 |[],_,_=>rfl
 |(u,a)::l,t,h=>by
  rw[dD,if_neg (fun e=>h (u,a) (by simp) e.symm)]
  exact uT fun x hx=>h x (by simp[hx])
theorem uJ:∀{l:List (Key×HN)} {κ:Key},(∀x∈l,x.1≠κ)→lkN l κ.1 κ.2= .dead 0
 |[],_,_=>rfl
 |(u,n)::l,κ,h=>by
  rw[aP,if_neg (fun e=>h (u,n) (by simp) e.symm)]
  exact uJ fun x hx=>h x (by simp[hx])
theorem DF (σ τ:St) (t:Nat):lkS (σ.upd (Bj σ τ)).slots t=lkS τ.slots t:=by
 unfold Bj
 rw[bo,bo,bo,(pV _ _ _ (0,0)).2,(pV _ _ _ (0,0)).2]
 rcases (qg (lkS τ.slots) τ.slots (σ.upd (wsS (lkS τ.slots) σ.slots)) t).1 with h|⟨h,h2⟩
 ·exact h
 ·rw[h]
  rcases (qg (lkS τ.slots) σ.slots σ t).1 with g|⟨g,g2⟩
  ·exact g
  ·rw[g,uT g2,uT h2]
theorem Fz (σ τ:St) (κ:Key):lkN (σ.upd (Bj σ τ)).heap κ.1 κ.2=lkN τ.heap κ.1 κ.2:=by
 unfold Bj
 rw[bo,bo,bo]
 rcases (pV (lkN τ.heap) τ.heap (((σ.upd (wsS (lkS τ.slots) σ.slots)).upd (wsS (lkS τ.slots) τ.slots)).upd (wsN (lkN τ.heap) σ.heap)) κ).1 with h|⟨h,h2⟩
 ·exact h
 ·rw[h]
  rcases (pV (lkN τ.heap) σ.heap ((σ.upd (wsS (lkS τ.slots) σ.slots)).upd (wsS (lkS τ.slots) τ.slots)) κ).1 with g|⟨g,g2⟩
  ·exact g
  ·rw[g,(qg _ _ _ 0).2,(qg _ _ _ 0).2,uJ g2,uJ h2]
theorem A7:∀(as:List A) (i t:Nat) (l:List (Nat×A)),lkS (vK i as++l) t=if i≤t then(match as[t-i]? with|some a=>a|none=>lkS l t) else lkS l t
 |[],i,t,l=>by simp[vK]
 |a::as,i,t,l=>by
  show lkS ((i,a)::(vK (i+1) as++l)) t=_
  rw[dD,A7 as (i+1) t l]
  by_cases c:t=i
  ·subst c;simp
  ·rw[if_neg c]
   by_cases c2:i≤t
   ·obtain⟨q,hq⟩:∃q,t-i=q+1:=⟨t-i-1,by omega⟩
    rw[if_pos (show i+1≤t by omega),if_pos c2,hq,show t-(i+1)=q by omega]
    rfl
   ·rw[if_neg qom,if_neg c2]
theorem oX:∀(l:List (Nat×A)) (t:Nat),lkS (mL l) (t+2000000)=lkS l t
 |[],_=>rfl
 |(u,a)::l,t=>by
  show lkS ((u+2000000,a)::mL l) (t+2000000)=_
  rw[dD,dD,oX l]
  by_cases c:t=u
  ·rw[if_pos c,if_pos qom]
  ·rw[if_neg c,if_neg qom]
theorem rC:∀(l:List (Nat×A)) (t:Nat),t<2000000→lkS (mL l) t= .hole
 |[],_,_=>rfl
 |(u,a)::l,t,h=>by
  show lkS ((u+2000000,a)::mL l) t=_
  rw[dD,if_neg qom,rC l t h]
theorem Fi {d:Option Nat} {t u:Nat} (h:iV d t=iV d u):t=u:=by
 unfold iV at h
 cases d with
 |none=>dsimp only at h;omega
 |some d'=>
  dsimp only at h
  cases h1:Nat.beq t d' <;> cases h2:Nat.beq u d' <;> rw[h1,h2] at h <;> simp only[cond] at h
  ·omega
  ·omega
  ·omega
  ·rw[qzW h1,qzW h2]
theorem uI (d:Option Nat):∀(l:List (Nat×A)) (t:Nat),lkS (nP d l) (iV d t)=lkS l t
 |[],_=>rfl
 |(u,a)::l,t=>by
  show lkS ((iV d u,a)::nP d l) (iV d t)=_
  rw[dD,dD,uI d l]
  by_cases c:t=u
  ·rw[if_pos c,if_pos (by rw[c])]
  ·rw[if_neg c,if_neg (fun e=>c (Fi e))]
/-- what stands iM the callee's frame -/
def iM (a:Act) (ρ:Env) (us:List Value):List Value:=(us++List.replicate (1000000-us.length) undef)++((List.range 1000000).map (fun t=>a.tmps.getD t undef)++ρ.args)
theorem uj {a:Act} {ρ:Env} {us:List Value} (hu:us.length≤1000000) (t:Nat):(iM a ρ us).getD (t+1000000) undef=slotv ρ a t:=by
 have len:(us++List.replicate (1000000-us.length) undef).length=1000000:=by simp;omega
 unfold iM slotv
 rw[qzt,qzu qom,len,show t+1000000-1000000=t by omega]
 by_cases c:t<1000000
 ·rw[if_pos c,qzF (by simpa using c),qzC,List.getElem?_range c]
  rfl
 ·rw[if_neg c,qzu (by simp;omega),List.length_map,List.length_range,qzt]
theorem Dw {a:Act} {ρ:Env} {us:List Value} (hu:us.length≤1000000):999999<(iM a ρ us).length:=by
 unfold iM
 simp only[qzg,List.length_replicate,List.length_map,List.length_range]
 omega
theorem af.get {w:World} {imm:Set} {x:Option Lam}:∀{as:List A} {us:List Value} {t:Nat} {a:A} {u:Value},af w imm x as us Set.no→as[t]? =some a→us[t]? =some u→CR w imm x a u Set.no
 |[],us,t,a,u,_,h,_=>by simp at h
 |c::as,[],t,a,u,hv,_,_=>by simp only[af] at hv
 |c::as,v::us,t,a,u,hv,ha,hu=>by
  simp only[af] at hv
  obtain⟨S1,S2,h1,h2,h3,h4,_⟩:=hv
  cases t with
  |zero=>
   simp only[qzs,qzh] at ha hu
   subst ha hu
   exact h1.mono h3
  |succ t=>exact af.get (h2.mono h4) (by simpa using ha) (by simpa using hu)
/-- the caller goes on in a state that is said -/
def E0 (σ:St) (d:Option Nat) (K:List W→Prop) (τ:St) (r:A):Prop:=∃τ1:St,Cov ⟨(1999999,r)::τ.slots,τ.heap⟩ ⟨nP d τ1.slots,τ1.heap⟩∧K (Bj σ τ1)
theorem A9 {P:Program} {E:TE} {C:Ctx} (hC:C=fq P) (hE:EOk P E) (hm:P.follows .mixedOrders=true) {f:FuncId} {fn:Func} {ts:List (Nat×Option Nat)} {d:Option Nat} {as:List A} {σ:St} {K:List W→Prop} (τ0:St) (Lv:St→A→Prop)
  (hL:∀τ r,Lv τ r→∃(τ1:St) (ws:List W),Cov ⟨(1999999,r)::τ.slots,τ.heap⟩ ⟨nP d τ1.slots,τ1.heap⟩∧K ws∧(∀t,lkS (σ.upd ws).slots t=lkS τ1.slots t)∧∀κ:Key,lkN (σ.upd ws).heap κ.1 κ.2=lkN τ1.heap κ.1 κ.2) (hf:P.funcs[f]? =some fn)
  (hok:uO fn as.length ts=true) (hres:fn.results.toList=ts.map resVar) (c0:Cov (qj σ as) τ0)
  (h:wpC E C (fn.body.getD .skip) (fun e τ=>match e with
   | .exit _=>False
   |_=>(nK E ts fun vs=>.need (Lv τ (tupOf vs)) (.done [])).holds τ fun _=>True) τ0):INg P d f as σ K:=by
 subst hC
 unfold uO at hok
 simp only[qzf,tg] at hok
 obtain⟨⟨⟨⟨⟨hname,h2⟩,hcode⟩,h4⟩,h5⟩,h6⟩:=hok
 have hn:=Nat.le_of_ble_eq_true h4
 have hds:=Nat.le_of_ble_eq_true h5
 have hts:∀t∈ts,t.1<1000000:=fun t ht=>by have:=qzN.1 h6 t ht;simpa [Nat.blt_eq] using this
 have hb:=yP h2 (rfl:fn.body.getD .skip=fn.body.getD .skip)
 intro ρ o a w imm Λ F us Q hX hod hd hv hex
 have hvl:=hv.length
 have hul:us.length≤1000000:=by omega
 refine .inl ?_
 simp only[Oper.wp,hex ⟨fn,hf,hname,h2⟩,Oper.upon]
 let ρ':Env:={ ρ with n:=fn.ntmps,args:=iM a ρ us }
 let a':Act:={ tmps:=us.toArray++Array.replicate (fn.ntmps-us.toArray.size) undef,defers:=[] }
 have hslot:∀t,CR w imm (some Λ) (lkS (qj σ as).slots t) (slotv ρ' a' t) Set.no:=fun t=>by
  unfold qj
  dsimp only
  rw[A7,if_pos (Nat.zero_le t),Nat.sub_zero]
  by_cases c:t<as.length
  ·rw[qzc c]
   dsimp only
   have e:slotv ρ' a' t=us[t]'qom:=by
    unfold slotv
    rw[if_pos qom]
    show(us.toArray++Array.replicate (fn.ntmps-us.toArray.size) undef).getD t undef=_
    rw[qzr,Array.getElem?_append_left (by simp;omega)]
    simp[show t<us.length by omega]
   rw[e]
   exact af.get hv (qzc c) (qzc qom)
  ·rw[qzR qom]
   dsimp only
   by_cases c2:t<2000000
   ·rw[rC _ _ c2];simp only[CR]
   ·obtain⟨u,rfl⟩:∃u,t=u+2000000:=⟨t-2000000,by omega⟩
    rw[oX]
    have e:slotv ρ' a' (u+2000000)=slotv ρ a u:=by
     rw[←uj (a:=a) (ρ:=ρ) hul u]
     show(if u+2000000<1000000 then _ else(iM a ρ us).getD (u+2000000-1000000) undef)=_
     rw[if_neg qom,show u+2000000-1000000=u+1000000 by omega]
    rw[e]
    exact hX.slots u
 have h0:aD ρ' (qj σ as) a' w imm Λ F:=
  {size := by show(us.toArray++Array.replicate (fn.ntmps-us.toArray.size) undef).size=fn.ntmps
              simp;omega
   nlt:=hn
   slots:=hslot
   nodes:=hX.nodes
   dis:=hX.dis
   fimm:=hX.fimm
   flt:=hX.flt
   immlt:=hX.immlt
   imm0:=hX.imm0
   keep:=hX.keep
   grow:=hX.grow
   os:=hX.os
   defers:=rfl
   rs:=hX.rs }
 have hw:=gw hE hm _ _ τ0 h ρ' a' w hcode (c0 ρ' a' w ⟨imm,Λ,F,h0⟩)
 refine Calls.mono' (calls_of_wp hf hb (R:=fun e w'=>match e with
  | .returned v=>∃ws,K ws∧Rel ρ (σ.upd ws) (a.put o.dst v) w'
  |_=>False) (wp_mono hw ?_)) ?_
 ·intro e a2 w2 hq
  have fin:(∃τ,(nK E ts fun vs=>Pg.need (Lv τ (tupOf vs)) (Pg.done [])).holds τ (fun _=>True)∧Rel ρ' τ a2 w2)→bodyPost P fn (fun e w'=>match e with
    | .returned v=>∃ws,K ws∧Rel ρ (σ.upd ws) (a.put o.dst v) w'
    |_=>False) .ret a2 w2:=by
   rintro⟨τ,hh,imm2,Λ2,F2,hY⟩
   obtain⟨rvs,hh1,hrv,hruns⟩:=mC hE hY ts _ hts hh
   obtain⟨hlv,_⟩:=hh1
   obtain⟨τ1,ws1,hcov,hK,hsl,hnd⟩:=hL _ _ hlv
   refine⟨hY.defers,_,rR hres a2.tmps hruns,ws1,hK,?_⟩
   have hr:=Dc hrv
   generalize ik (ts.map (pT P w2 a2.tmps)).toArray=v at hr⊢
   let ρ2:Env:={ ρ' with args:=ρ'.args.set 999999 v }
   have hlen:999999<ρ'.args.length:=Dw hul
   have sl:∀t,t≠1999999→slotv ρ2 a2 t=slotv ρ' a2 t:=fun t ht=>by
    unfold slotv
    by_cases c:t<1000000
    ·rw[if_pos c,if_pos c]
    ·rw[if_neg c,if_neg c]
     show(ρ'.args.set 999999 v).getD (t-1000000) undef=ρ'.args.getD (t-1000000) undef
     rw[qzt,qzt,xA qom]
   have s9:slotv ρ2 a2 1999999=v:=by
    unfold slotv
    rw[if_neg qom]
    show(ρ'.args.set 999999 v).getD 999999 undef=v
    rw[qzt,rY hlen]
    rfl
   have hZ:aD ρ2 ⟨(1999999,tupOf rvs)::τ.slots,τ.heap⟩ a2 w2 imm2 Λ2 F2:=
    {size:=hY.size,nlt:=hY.nlt,nodes:=hY.nodes,dis:=hY.dis,fimm:=hY.fimm,flt:=hY.flt,immlt:=hY.immlt,imm0:=hY.imm0,keep:=hY.keep,grow:=hY.grow,os:=hY.os,defers:=hY.defers,rs:=hY.rs
     slots:=fun t=>by
      show CR w2 imm2 (some Λ2) (lkS ((1999999,tupOf rvs)::τ.slots) t) _ _
      rw[dD]
      by_cases c:t=1999999
      ·rw[if_pos c,c,s9];exact hr
      ·rw[if_neg c,sl t c];exact hY.slots t }
   obtain⟨imm3,Λ3,F3,hV⟩:=hcov ρ2 a2 w2 ⟨imm2,Λ2,F2,hZ⟩
   refine⟨imm3,Λ3,F3,?_⟩
   have mi:∀t,slotv ρ2 a2 (iV d t)=slotv ρ (a.put o.dst v) t:=fun t=>by
    rw[hod]
    unfold iV
    have low:∀t,slotv ρ2 a2 (t+2000000)=slotv ρ a t:=fun t=>by
     rw[sl _ qom,←uj (a:=a) (ρ:=ρ) hul t]
     show(if t+2000000<1000000 then _ else(iM a ρ us).getD (t+2000000-1000000) undef)=_
     rw[if_neg qom,show t+2000000-1000000=t+1000000 by omega]
    cases hdd:d with
    |none=>exact low t
    |some d'=>
     dsimp only
     have hd':d'<ρ.n:=hd d' (by rw[hod,hdd])
     have hnlt:=hX.nlt
     cases hb':Nat.beq t d' with
     |true=>
      have e:=qzW hb'
      subst e
      show slotv ρ2 a2 1999999=_
      rw[s9]
      unfold slotv
      rw[if_pos qom]
      simp[Act.put,qzr,hX.size,hd']
     |false=>
      have e:t≠d':=fun e=>by rw[e,Nat.beq_refl] at hb';cases hb'
      show slotv ρ2 a2 (t+2000000)=_
      rw[low]
      unfold slotv
      by_cases c:t<1000000
      ·rw[if_pos c,if_pos c]
       simp[Act.put,qzr,Array.getElem?_setIfInBounds_ne (fun x=>e x.symm)]
      ·rw[if_neg c,if_neg c]
   exact
    {size:=by
      have:=hX.size
      cases hdd:o.dst with
      |none=>exact this
      |some d'=>simpa [Act.put] using this
     nlt:=hX.nlt
     slots:=fun t=>by
      rw[hsl,←mi t]
      have:=hV.slots (iV d t)
      rw[show lkS (⟨nP d τ1.slots,τ1.heap⟩:St).slots (iV d t)=lkS τ1.slots t from uI d _ _] at this
      exact this
     nodes:=fun κ=>by rw[hnd];exact hV.nodes κ
     rs:=fun κ=>by rw[hnd];exact hV.rs κ
     dis:=hV.dis
     fimm:=hV.fimm
     flt:=hV.flt
     immlt:=hV.immlt
     imm0:=hV.imm0
     keep:=hV.keep
     grow:=hV.grow
     os:=hV.os
     defers:=by
      have:=hX.defers
      cases hdd:o.dst with
      |none=>exact this
      |some d'=>exact this }
  cases e with
  |normal=>exact fin hq
  |ret=>exact fin hq
  |exit id=>obtain⟨_,h',_⟩:=hq;exact h'.elim
  |_=>exact hq.elim
 ·intro e w' hR
  cases e with
  |panicked _=>exact hR.elim
  |outgrown=>exact hR.elim
  |returned v=>exact hR
theorem AO {P:Program} {E:TE} {C:Ctx} (hC:C=fq P) (hE:EOk P E) (hm:P.follows .mixedOrders=true) {f:FuncId} {fn:Func} {ts:List (Nat×Option Nat)} {d:Option Nat} {as:List A} {σ:St} {K:List W→Prop} (τ0:St) (hf:P.funcs[f]? =some fn)
  (hok:uO fn as.length ts=true) (hres:fn.results.toList=ts.map resVar) (c0:Cov (qj σ as) τ0)
  (h:wpC E C (fn.body.getD .skip) (fun e τ=>match e with
   | .exit _=>False
   |_=>(nK E ts fun vs=>.need (E0 σ d K τ (tupOf vs)) (.done [])).holds τ fun _=>True) τ0):C.IN.go d f as σ K:=by
 have:=A9 hC hE hm τ0 (E0 σ d K) (fun τ r hl=>by
  obtain⟨τ1,h1,h2⟩:=hl
  exact⟨τ1,_,h1,h2,DF σ τ1,Fz σ τ1⟩) hf hok hres c0 h
 subst hC
 exact this
theorem xx:∀(H l:List (Key×HN)) (κ:Key),(∀x∈H,lkN l x.1.1 x.1.2=x.2)→lkN (H++l) κ.1 κ.2=lkN l κ.1 κ.2
 |[],_,_,_=>rfl
 |(u,n)::H,l,κ,h=>by
  show lkN ((u,n)::(H++l)) κ.1 κ.2=_
  rw[aP]
  by_cases c:κ=u
  ·rw[if_pos c,c,h (u,n) (by simp)]
  ·rw[if_neg c]
   exact xx H l κ fun x hx=>h x (by simp[hx])
theorem qp (d:Option Nat):∀(l:List (Nat×A)) (t:Nat),(∀u,t≠iV d u)→lkS (nP d l) t= .hole
 |[],_,_=>rfl
 |(u,a)::l,t,h=>by
  show lkS ((iV d u,a)::nP d l) t=_
  rw[dD,if_neg (h u),qp d l t h]
/-- what is left out is not known -/
theorem AH {σ τ:St} (hs:∀t,lkS τ.slots t=lkS σ.slots t∨lkS τ.slots t= .hole) (hn:∀κ:Key,lkN τ.heap κ.1 κ.2=lkN σ.heap κ.1 κ.2):Cov σ τ:=by
 rintro ρ a w ⟨imm,Λ,F,h⟩
 refine⟨imm,Λ,F,{ h with slots:=fun t=>?_,nodes:=fun κ=>by rw[hn];exact h.nodes κ,rs:=fun κ=>by rw[hn];exact h.rs κ }⟩
 rcases hs t with e|e
 ·rw[e];exact h.slots t
 ·rw[e];simp only[CR]
/-- a call that changes nothing: its code runs with only these nodes known -/
theorem eD {P:Program} {E:TE} {C:Ctx} (hC:C=fq P) (hE:EOk P E) (hm:P.follows .mixedOrders=true) {f:FuncId} {fn:Func} {ts:List (Nat×Option Nat)} {as:List A} {H:List (Key×HN)} {r:A} (hf:P.funcs[f]? =some fn)
  (hok:uO fn as.length ts=true) (hres:fn.results.toList=ts.map resVar)
  (h:∀(S:List (Nat×A)) (N:List (Key×HN)),wpC E C (fn.body.getD .skip) (fun e τ=>match e with
   | .exit _=>False
   |_=>(nK E ts fun vs=>.need (tupOf vs=r∧τ.heap=H++N∧∀t,lkS τ.slots (t+2000000)=lkS S (t+2000000)) (.done [])).holds τ fun _=>True) ⟨vK 0 as++S,H++N⟩):C.IN.ro f as H r:=by
 have key:INr P f as H r:=fun σ d K hH hK=>by
  refine A9 hC hE hm ⟨vK 0 as++mL σ.slots,H++σ.heap⟩ (fun τ r'=>r'=r∧τ.heap=H++σ.heap∧∀t,lkS τ.slots (t+2000000)=lkS (mL σ.slots) (t+2000000)) ?_ hf hok hres ?_ (h _ _)
  ·rintro τ r' ⟨rfl,h2,h3⟩
   refine⟨σ.upd (Vm.put d r'),_,?_,hK,fun _=>rfl,fun _=>rfl⟩
   have hp:(σ.upd (Vm.put d r')).heap=σ.heap:=by cases d <;> rfl
   refine AH (fun t=>?_) (fun κ=>?_)
   ·show lkS (nP d (σ.upd (Vm.put d r')).slots) t=lkS ((1999999,r')::τ.slots) t∨_
    by_cases c:∃u,t=iV d u
    ·obtain⟨u,rfl⟩:=c
     refine .inl ?_
     rw[uI]
     cases d with
     |none=>
      show lkS σ.slots u=lkS _ (u+2000000)
      rw[dD,if_neg qom,h3,oX]
     |some d'=>
      show lkS ((d',r')::σ.slots) u=_
      unfold iV
      dsimp only
      rw[dD]
      cases hb:Nat.beq u d' with
      |true=>rw[if_pos (qzW hb)];show _=lkS _ 1999999;rw[dD,if_pos rfl]
      |false=>
       rw[if_neg (fun e=>by rw[e,Nat.beq_refl] at hb;cases hb)]
       show _=lkS _ (u+2000000)
       rw[dD,if_neg qom,h3,oX]
    ·exact .inr (qp d _ _ fun u e=>c ⟨u,e⟩)
   ·show lkN (σ.upd (Vm.put d r')).heap κ.1 κ.2=lkN τ.heap κ.1 κ.2
    rw[hp,h2,xx H _ _ hH]
  ·refine AH (fun t=>.inl rfl) (fun κ=>?_)
   show lkN (H++σ.heap) κ.1 κ.2=lkN σ.heap κ.1 κ.2
   exact xx H _ _ hH
 subst hC
 exact key
end Go.Vm
/- Boxes whose lists are opened, no load standing by. -/
namespace Go.Vm
section
variable {P:Program} {ρ:Env} {σ:St} {a:Act} {w:World} {imm:Set} {Λ:Lam} {F:Key→Set} {K:List W→Prop} {Fn:FuncId→List A→List A→A→Prop} {LW:Code→(Ex→St→Prop)→St→Prop} {IN:InT}
/-- what a box owns becomes nodes of slot d -/
def BO (C:Ctx) (κ:Key) (d:Nat):Pg:=.gn κ fun h=>match h with
 | .box g cells=>cond (Nat.beq κ.1 d) .fail (gS C d 0 cells fun ws cs'=>.done (.n κ (.box g cs')::ws))
 |_=>.fail
theorem Dp (h:aD ρ σ a w imm Λ F) {κ:Key} {d:Nat} (hh:(BO (au Fn LW IN) κ d).holds σ K):∃ws,K ws∧Rel ρ (σ.upd ws) a w:=by
 unfold BO at hh
 obtain⟨nd,hnd,hN,hh⟩:=h.node hh
 cases nd <;> simp only[Pg.holds] at hh
 rename_i g cells
 by_cases hne:κ.1=d
 ·rw[show Nat.beq κ.1 d=true from Nat.beq_eq.mpr hne] at hh;exact hh.elim
 rw[show Nat.beq κ.1 d=false from Bool.eq_false_iff.2 fun e=>hne (Nat.beq_eq.mp e)] at hh
 obtain⟨ws,cs',Λ',F',τ,r1,r2,r3,_,r5,r6,r7,r8,r9⟩:=kW (post:=[]) (f:=fun _ _=>.fail) (.box g) hne cells [] 0 σ Λ F _ h (by simpa using hnd) (fun _ _=>rfl) hh
 refine⟨_,r1,imm,Λ',F',r3.congr (fun t=>?_) (fun x=>?_)⟩
 ·rw[St.upd,mr r2,r8];rfl
 ·by_cases e:x=κ
  ·subst e
   rw[St.upd,l8 r2 x hne,r7]
   show lkN ((x,_)::σ.heap) x.1 x.2=_
   rw[aP,if_pos rfl];simp
  ·rw[St.upd,r9 x e]
   refine mN (p:=fun y=>y≠κ) ws (fun y hy=>?_) x e
   show lkN ((κ,_)::σ.heap) y.1 y.2=_
   rw[aP,if_neg hy]
theorem ji {C:Ctx} (hC:C=fq P) {τ:St} (κ:Key) (d:Nat) (hh:(BO C κ d).holds σ fun ws=>Cov (σ.upd ws) τ):Cov σ τ:=by
 subst hC
 rintro ρ a w ⟨imm,Λ,F,h⟩
 obtain⟨ws,hk,hr⟩:=Dp h hh
 exact hk ρ a w hr
end
/-- the end of a call that changes nothing -/
theorem Rb {g:Prop} (k:g:=by (repeat' apply And.intro) <;> first|trivial|(intro t;simp[Vm.lkS];done)|rfl):g:=k
end Go.Vm
/- The rest of a row of one's own, when what stood ahead of it is let go of. -/
namespace Go.Vm
def yy:Nat→List A→A
 |_,[]=>.hole
 |0,c::_=>c
 |n+1,_::cs=>yy n cs
def nY (x:A):Nat→List A→List A
 |_,[]=>[]
 |0,_::cs=>x::cs
 |n+1,c::cs=>c::nY x n cs
/-- the ref in a cell of a box becomes the whole of its node -/
def Em (C:Ctx) (κ':Key) (c:Nat):Pg:=.gn κ' fun h=>match h with
 | .box g' cells=>match yy c cells with
  | .ref κ g i n=>cond (kF κ [κ']) .fail <| .gn κ fun h2=>match h2 with
   | .arr g2 k rows=>if g=g2 then .need (C.nadd i n≤C.len rows) (.done [.n κ (.arr (g2+1) k (C.part rows i n)),.n κ' (.box g' (nY (.ref κ (g2+1) 0 n) c cells))]) else .fail
   |_=>.fail
  |_=>.fail
 |_=>.fail
theorem qM (x:A):∀(c:Nat) (cs:List A),(nY x c cs).length=cs.length
 |_,[]=>by simp only[nY]
 |0,_::_=>rfl
 |n+1,_::cs=>by simp only[nY,qzm,qM x n cs]
section
variable {P:Program} {ρ:Env} {σ:St} {a:Act} {w:World} {imm:Set} {Λ:Lam} {F:Key→Set} {K:List W→Prop} {Fn:FuncId→List A→List A→A→Prop} {LW:Code→(Ex→St→Prop)→St→Prop} {IN:InT}
theorem yO {Λ':Lam} {κ:Key} {g g' i n:Nat} {b:Nat} (hL:bF Λ Λ') (hr:∀u,eB (Λ κ) g i n u→eB (Λ' κ) g' 0 n u):∀(c:Nat) (cs:List A) (p:Nat) (S:Set),yy c cs= .ref κ g i n→ai w imm (some Λ) cs b p S→ai w imm (some Λ') (nY (.ref κ g' 0 n) c cs) b p S
 |_,[],_,_,_,h=>by simp only[nY,ai]
 |0,x::cs,p,S,hn,h=>by
  simp only[yy] at hn
  subst hn
  simp only[nY,ai] at h⊢
  obtain⟨v,S1,S2,h1,h2,h3,h4⟩:=h
  simp only[CR] at h2⊢
  exact⟨v,S1,S2,h1,hr v h2,ai.stable (Set.le_refl _) (fun _ _=>rfl) (some Λ) (some Λ') _ _ _ _ _ hL (Set.le_refl _) rfl (fun _ _=>rfl) h3,h4⟩
 |c+1,x::cs,p,S,hn,h=>by
  simp only[yy] at hn
  simp only[nY,ai] at h⊢
  obtain⟨v,S1,S2,h1,h2,h3,h4⟩:=h
  exact⟨v,S1,S2,h1,CR.stable (Set.le_refl _) (fun _ _=>rfl) (some Λ) (some Λ') _ _ _ _ hL (Set.le_refl _) (fun _ _=>rfl) h2,yO hL hr c cs (p+1) S2 hn h3,h4⟩
theorem FN (h:aD ρ σ a w imm Λ F) {κ':Key} {c:Nat} (hh:(Em (au Fn LW IN) κ' c).holds σ K):∃ws,K ws∧Rel ρ (σ.upd ws) a w:=by
 unfold Em at hh
 obtain⟨nd,hnd,hN,hh⟩:=h.node hh
 cases nd <;> simp only[Pg.holds] at hh
 rename_i g' cells
 cases hc:yy c cells <;> rw[hc] at hh <;> simp only[Pg.holds] at hh
 rename_i κ g i n
 cases hk:kF κ [κ'] <;> rw[hk] at hh <;> simp only[cond_true,cond_false] at hh
 rotate_left
 ·exact hh.elim
 have hne:κ≠κ':=fun e=>by
  have:=(nL κ [κ']).2 (by rw[e];simp)
  rw[this] at hk;cases hk
 obtain⟨nd2,hnd2,hN2,hh⟩:=h.node hh
 cases nd2 <;> simp only[Pg.holds] at hh
 rename_i g2 k rows
 split at hh
 rotate_left
 ·exact hh.elim
 rename_i hg
 subst hg
 obtain⟨hle,hK⟩:=hh
 replace hle:i+n≤rows.length:=hle
 refine⟨_,hK,?_⟩
 -- the view of the node
 let ki:KI:={ gen:=g+1,k:=k,n:=n,loc:=match(Λ κ).loc with| .at_ b base size=>.at_ b (base+i * k) size|l=>l }
 have hL:bF Λ (up Λ κ ki):=fun x=>by
  by_cases e:x=κ
  ·subst e
   rw[az]
   exact⟨by show(Λ x).gen≤g+1;have:=hN2.1;omega,fun q=>by have:=hN2.1;have q:g+1=(Λ x).gen:=q;omega⟩
  ·rw[aN _ _ e];exact⟨qzi _,fun _=>.inr rfl⟩
 have hplen:((rows.drop i).take n).length=n:=by rw[qzZ,qzU];omega
 have hr:∀u,eB (Λ κ) g i n u→eB (up Λ κ ki κ) (g+1) 0 n u:=fun u hu=>by
  rw[az]
  obtain⟨u1,u2,u3⟩:=hu
  refine⟨qzi _,fun _=>?_,u3⟩
  have u2:=u2 hN2.1.symm
  rcases hN2.2.2.2 with⟨e,rfl⟩|⟨b,base,size,S',e,_⟩
  ·show match(match(Λ κ).loc with| .at_ b base size=>Loc.at_ b (base+i * k) size|l=>l) with| .gone=>True| .nil=>0=0∧n=0∧u= .slice none 0 0| .at_ b base size=>∃o cap,u= .slice (some ⟨b,o,none⟩) n cap∧n≤cap∧0+n≤n∧o≤size∧(cap=0∨(o=base+0 * k∧o+cap * k≤size))
   rw[e] at u2⊢
   exact⟨rfl,u2.2.1,u2.2.2⟩
  ·show match(match(Λ κ).loc with| .at_ b base size=>Loc.at_ b (base+i * k) size|l=>l) with| .gone=>True| .nil=>0=0∧n=0∧u= .slice none 0 0| .at_ b base size=>∃o cap,u= .slice (some ⟨b,o,none⟩) n cap∧n≤cap∧0+n≤n∧o≤size∧(cap=0∨(o=base+0 * k∧o+cap * k≤size))
   rw[e] at u2⊢
   obtain⟨o,cap,v1,v2,v3,v4,v5⟩:=u2
   refine⟨o,cap,v1,v2,by omega,v4,v5.imp id fun q=>?_⟩
   rw[hN2.2.1] at q
   exact⟨by omega,q.2⟩
 refine⟨imm,up Λ κ ki,F,h.ghost (fun t=>rfl) hL (fun x=>?_) h.dis (fun y b hb=>⟨y,hb⟩) (fun x=>?_)⟩
 rotate_right
 ·show RSp _ _ (lkN ((κ',HN.box g' (nY (.ref κ (g+1) 0 n) c cells))::(κ,HN.arr (g+1) k ((rows.drop i).take n))::σ.heap) x.1 x.2)
  rw[aP]
  by_cases e:x=κ'
  ·subst e
   rw[if_pos rfl,aN _ _ (Ne.symm hne)]
   have h0:=h.rs x
   rw[hnd] at h0
   intro b0 base0 size0 e0
   rw[qM]
   exact h0 b0 base0 size0 e0
  ·rw[if_neg e,aP]
   by_cases e2:x=κ
   ·subst e2
    rw[if_pos rfl]
    trivial
   ·rw[if_neg e2,aN _ _ e2]
    exact h.rs x
 show NR w imm _ _ (lkN ((κ',HN.box g' (nY (.ref κ (g+1) 0 n) c cells))::(κ,HN.arr (g+1) k ((rows.drop i).take n))::σ.heap) x.1 x.2) (F x)
 rw[aP]
 by_cases e:x=κ'
 ·subst e
  rw[if_pos rfl,aN _ _ (Ne.symm hne)]
  obtain⟨n1,n2,n3,b,base,size,S',n4,n5,n6,n7,n8,n9,n10⟩:=hN
  exact⟨n1,by rw[qM];exact n2,n3,b,base,size,S',n4,n5,n6,n7,n8,by rw[qM];exact n9,yO hL hr c cells base S' hc n10⟩
 ·rw[if_neg e,aP]
  by_cases e2:x=κ
  ·subst e2
   rw[if_pos rfl,az]
   refine⟨rfl,rfl,hplen.symm,?_⟩
   rcases hN2.2.2.2 with⟨q,rfl⟩|⟨b,base,size,S',q,q1,q2,q3,q4,q5,q6⟩
   ·left
    refine⟨?_,by simp⟩
    show(match(Λ x).loc with| .at_ b base size=>Loc.at_ b (base+i * k) size|l=>l)= .nil
    rw[q]
   ·right
    refine⟨b,base+i * k,size,S',?_,q1,q2,q3,q4,?_,aq.take n _ _ _ (aq.drop i rows base q6)⟩
    ·show(match(Λ x).loc with| .at_ b base size=>Loc.at_ b (base+i * k) size|l=>l)= .at_ b (base+i * k) size
     rw[q]
    ·rw[hplen]
     have:(i+n) * k≤rows.length * k:=qzp k hle
     rw[qzJ] at this
     omega
  ·rw[if_neg e2,aN _ _ e2]
   exact(h.nodes x).le hL
theorem CV {C:Ctx} (hC:C=fq P) {τ:St} (κ':Key) (c:Nat) (hh:(Em C κ' c).holds σ fun ws=>Cov (σ.upd ws) τ):Cov σ τ:=by
 subst hC
 rintro ρ a w ⟨imm,Λ,F,h⟩
 obtain⟨ws,hk,hr⟩:=FN h hh
 exact hk ρ a w hr
end
/-- nodes under their own names -/
def idm:List (Key×HN)→List (Key×Key)
 |[]=>[]
 |(κ,_)::l=>(κ,κ)::idm l
theorem qC {σ τ:St} (h:Ak (idm τ.heap) σ τ):Cov σ τ:=bm _ h
end Go.Vm
/- Rows of one's own that are let go of, between regions. -/
namespace Go.Vm
section
variable {P:Program} {ρ:Env} {σ:St} {a:Act} {w:World} {imm:Set} {Λ:Lam} {F:Key→Set} {K:List W→Prop} {Fn:FuncId→List A→List A→A→Prop} {LW:Code→(Ex→St→Prop)→St→Prop} {IN:InT}
theorem aD.freeze (h:aD ρ σ a w imm Λ F) {κ:Key} {g k:Nat} {rows:Rows} (hn:lkN σ.heap κ.1 κ.2= .arr g k rows) :
  aD ρ (σ.upd [.n κ (.farr g k (aA rows))]) a w (fun b=>imm b∨F κ b) Λ (up F κ Set.no):=by
 have hi:Set.le imm (fun b=>imm b∨F κ b):=fun b hb=>.inl hb
 have hN:=h.nodes κ
 rw[hn] at hN
 refine{ size:=h.size,nlt:=h.nlt,slots:=fun t=>?_,nodes:=fun x=>?_,dis:=fun x y hxy=>?_,fimm:=fun x=>?_,flt:=fun x b hb=>?_,immlt:=fun b hb=>?_,imm0:=Set.le_trans h.imm0 hi,keep:=h.keep,grow:=h.grow,os:=h.os,defers:=h.defers,rs:=lE trivial fun x _=>h.rs x }
 ·exact CR.stable hi (fun _ _=>rfl) (some Λ) (some Λ) _ _ _ _ (bF?.refl _) (Set.le_refl _) (fun _ _=>rfl) (h.slots t)
 ·show NR w _ Λ (Λ x) (lkN ((κ,HN.farr g k (aA rows))::σ.heap) x.1 x.2) (up F κ Set.no x)
  rw[aP]
  by_cases e:x=κ
  ·subst e
   rw[if_pos rfl,az]
   obtain⟨n1,n2,n3,n4⟩:=hN
   refine⟨n1,n2,?_,?_⟩
   ·rw[n3,ge]
   ·rcases n4 with⟨q,rfl⟩|⟨b,base,size,S',q,q1,q2,q3,q4,q5,q6⟩
    ·exact .inl ⟨q,by simp only[aA]⟩
    ·exact .inr ⟨b,base,size,q,.inr q1,aq.freeze hi rows b base k S' q6 (fun y hy=>.inr (q3 y hy))⟩
  ·rw[if_neg e,aN _ _ e]
   exact NR.stable hi (fun _ _=>rfl) (fun _ _=>rfl) (bF.refl Λ) (h.nodes x)
 ·by_cases e:x=κ
  ·subst e;rw[az];exact Set.no_dis _
  ·rw[aN _ _ e]
   by_cases e':y=κ
   ·subst e';rw[az];exact fun _ _ z=>z
   ·rw[aN _ _ e'];exact h.dis x y hxy
 ·by_cases e:x=κ
  ·subst e;rw[az];exact Set.no_dis _
  ·rw[aN _ _ e]
   intro b hb hb2
   rcases hb2 with hb2|hb2
   ·exact h.fimm x b hb hb2
   ·exact h.dis x κ e b hb hb2
 ·by_cases e:x=κ
  ·subst e;rw[az] at hb;exact hb.elim
  ·rw[aN _ _ e] at hb;exact h.flt x b hb
 ·rcases hb with hb|hb
  ·exact h.immlt b hb
  ·have:=h.flt κ b hb
   exact⟨this.1,.inr this.2⟩
/-- nodes are let go of -/
def wT (C:Ctx):List Key→Pg
 |[]=>.done []
 |κ::ks=>.gn κ fun h=>match h with
  | .arr g k rows=>.wr [.n κ (.farr g k (C.fz rows))] (wT C ks)
  |_=>.fail
theorem sw:∀(ks:List Key) {σ:St} {imm:Set} {F:Key→Set} {K:List W→Prop},aD ρ σ a w imm Λ F→(wT (au Fn LW IN) ks).holds σ K→∃ws,K ws∧Rel ρ (σ.upd ws) a w
 |[],σ,imm,F,K,h,hh=>⟨[],hh,imm,Λ,F,h⟩
 |κ::ks,σ,imm,F,K,h,hh=>by
  simp only[wT,Pg.holds] at hh
  cases hn:lkN σ.heap κ.1 κ.2 <;> rw[hn] at hh <;> simp only[Pg.holds] at hh
  rename_i g k rows
  obtain⟨ws,h1,h2⟩:=sw ks (h.freeze hn) hh
  exact⟨_,h1,by rw[bo];exact h2⟩
theorem eK {E:TE} {C:Ctx} (hC:C=fq P) (hE:EOk P E) (_hm:P.follows .mixedOrders=true) {id:Nat} {ops:Array Oper} {Q:Ex→St→Prop} (ks:List Key) (h:(wT C ks).holds σ fun ws=>wpOps E C ops.toList (Q .normal) ops.toList (σ.upd ws)):C.LW (.seq (.label 0) (.region id ops false)) Q σ:=by
 subst hC
 refine⟨fun h=>(by cases h),fun l r e=>?_⟩
 cases e
 rintro ρ a w hc ⟨imm,Λ,F,hr⟩
 obtain⟨ws,h1,h2⟩:=sw ks hr h
 exact wp_region_list (my hE (K:=Q .normal) (fun a w σ hq hr=>⟨σ,hq,hr⟩) ops.toList _ a w (iU hc) (fun _ h=>h) h1 h2)
/-- the same for a region that draws -/
theorem v8 {E:TE} {C:Ctx} (hC:C=fq P) (hE:EOk P E) (hm:P.follows .mixedOrders=true) {id:Nat} {ops:Array Oper} {Q:Ex→St→Prop} (ks:List Key) (h:(wT C ks).holds σ fun ws=>gF E C ops.toList (Q .normal) ops.toList 0 [] (σ.upd ws)):C.LW (.seq (.label 0) (.region id ops true)) Q σ:=by
 subst hC
 refine⟨fun h=>(by cases h),fun l r e=>?_⟩
 cases e
 rintro ρ a w hc ⟨imm,Λ,F,hr⟩
 obtain⟨ws,h1,h2⟩:=sw ks hr h
 exact qT hE hm (K:=Q .normal) (fun a w σ hq hr=>⟨σ,hq,hr⟩) (iU hc) h1 h2
end
end Go.Vm
/- A function by its code; rows that stand open are shut at its end, or between regions. -/
namespace Go.Vm
/-- rows under these keys that stand open are shut -/
def l9 (C:Ctx):List Key→Pg→Pg
 |[],p=>p
 |κ::ks,p=>.gn κ fun h=>match h with
  | .opn g k rows i row=>cV C [κ] row fun _ ws row'=>.wr (.n κ (.arr g k (C.set rows i row'))::ws) (l9 C ks p)
  |_=>l9 C ks p
def Hf (E:TE) (C:Ctx) (sh:List Key) (c:Code) (ts:List (Nat×Option Nat)) (rm:List Mode) (gs:List Nat) (pm:List Mode) (ds post:List A) (r:A):Prop:=
 pe C 0 ds ⟨[],[]⟩ fun σ=>wpC E C c (fun e σ=>match e with
  | .exit _=>False
  |_=>(l9 C sh (vT E C ts rm gs pm post r)).holds σ fun _=>True) σ
section
variable {P:Program} {E:TE} {ρ:Env} {σ:St} {a:Act} {w:World} {K:List W→Prop} {Fn:FuncId→List A→List A→A→Prop} {LW:Code→(Ex→St→Prop)→St→Prop} {IN:InT}
theorem uw {σ:St} {K K':List W→Prop}:∀(cs:List A) (tk:List Key) (f q:List Key→List W→List A→Pg),(∀tk ws cs',(f tk ws cs').holds σ K→(q tk ws cs').holds σ K')→
  (cV (au Fn LW IN) tk cs f).holds σ K→(cV (au Fn LW IN) tk cs q).holds σ K'
 |[],tk,f,q,hfq,h=>hfq _ _ _ h
 |c::cs,tk,f,q,hfq,h=>by
  have ih:=fun tk f q hfq h=>uw (σ:=σ) (K:=K) (K':=K') cs tk f q hfq h
  cases c with
  |ref κ g i n=>
   by_cases hin:kF κ tk=true
   ·unfold cV at h
    rw[if_pos hin] at h
    exact h.elim
   ·unfold cV at h⊢
    rw[if_neg hin] at h⊢
    simp only[Pg.holds] at h⊢
    cases hn:lkN σ.heap κ.1 κ.2 <;> rw[hn] at h <;> try exact h.elim
    ·rename_i g' k rows
     by_cases hg:g=g'∧i=0
     ·simp only[hg,and_self,if_true,Pg.holds] at h⊢
      exact⟨h.1,ih _ _ _ (fun tk ws cs' h=>hfq _ _ _ h) h.2⟩
     ·simp only[if_neg hg,Pg.holds] at h
    ·rename_i g' k rows
     by_cases hg:g=g'∧i=0
     ·simp only[hg,and_self,if_true,Pg.holds] at h⊢
      exact⟨h.1,ih _ _ _ (fun tk ws cs' h=>hfq _ _ _ h) h.2⟩
     ·simp only[if_neg hg,Pg.holds] at h
  |lit v=>
   by_cases hv:v= .slice none 0 0
   ·subst hv
    obtain⟨o,h⟩:=h
    exact⟨o,ih _ _ _ (fun tk ws cs' h=>hfq _ _ _ h) h⟩
   ·have e:∀f,wi v f=f (.lit v):=by
     intro f
     unfold wi
     split
     ·exact absurd rfl hv
     ·rfl
    simp only[cV,e] at h⊢
    exact ih _ _ _ (fun tk ws cs' h=>hfq _ _ _ h) h
  |tree r=>simp only[cV] at h⊢;exact ih _ _ _ (fun tk ws cs' h=>hfq _ _ _ h) h
  |emp=>simp only[cV] at h⊢;exact ih _ _ _ (fun tk ws cs' h=>hfq _ _ _ h) h
  |_=>exact h.elim
theorem nr:∀(ks:List Key) {p:Pg} {σ:St} {K:List W→Prop},Rel ρ σ a w→(l9 (au Fn LW IN) ks p).holds σ K→∃ws,p.holds (σ.upd ws) (fun ws2=>K (ws++ws2))∧Rel ρ (σ.upd ws) a w
 |[],p,σ,K,hr,h=>⟨[],h,hr⟩
 |κ::ks,p,σ,K,hr,h=>by
  simp only[l9,Pg.holds] at h
  cases hn:lkN σ.heap κ.1 κ.2 <;> rw[hn] at h <;> simp only[Pg.holds] at h
  case opn g k rows i row=>
   have h2:(rW (au Fn LW IN) κ).holds σ fun ws=>(l9 (au Fn LW IN) ks p).holds (σ.upd ws) fun ws2=>K (ws++ws2):=by
    simp only[rW,Pg.holds]
    rw[hn]
    refine uw row [κ] _ _ (fun tk ws cs' h=>?_) h
    simpa only[Pg.holds] using h
   obtain⟨imm,Λ,F,hX⟩:=hr
   obtain⟨ws,h3,h4⟩:=w8 hX h2
   obtain⟨ws',h5,h6⟩:=nr ks h4 h3
   exact⟨ws++ws',by rw[bo];simpa only[qzl] using h5,by rw[bo];exact h6⟩
  all_goals exact nr ks hr h
end
/-- a function by its code -/
theorem H3 {P:Program} {E:TE} (hE:EOk P E) (hm:P.follows .mixedOrders=true) (sh:List Key) {f:FuncId} {fn:Func} {ts:List (Nat×Option Nat)} {rm:List Mode} {pm:List Mode} {ds post:List A} {r:A} (hf:P.funcs[f]? =some fn)
  (hok:uO fn ds.length ts=true) (hres:fn.results.toList=ts.map resVar)
  (h:∀Fn LW IN len cast toNat wrap add sub mul bin lt eq At set part app fz rep nadd nmax ssize sext sget scat seq slt Wide Flat Ones Room (r':A) (post':List A),(⟨Fn,LW,IN,len,cast,toNat,wrap,add,sub,mul,bin,lt,eq,At,set,part,app,fz,rep,nadd,nmax,ssize,sext,sget,scat,seq,slt,Wide,Flat,Ones,Room⟩:Ctx)=fq P→(∀f ds ds' post r,ah P f ds' post r→ds=ds'→Fn f ds post r)→r'=r→post'=post→
   Hf E ⟨Fn,LW,IN,len,cast,toNat,wrap,add,sub,mul,bin,lt,eq,At,set,part,app,fz,rep,nadd,nmax,ssize,sext,sget,scat,seq,slt,Wide,Flat,Ones,Room⟩ sh (fn.body.getD .skip) ts rm ((List.range ds.length).map (1000000+·)) pm ds post' r'):ah P f ds post r:=by
 unfold uO at hok
 simp only[qzf,tg] at hok
 obtain⟨⟨⟨⟨⟨h1,h2⟩,h3⟩,h4⟩,h5⟩,h6⟩:=hok
 have hb:=h _ _ _ _ _ _ _ _ _ _ _ _ _ _ _ _ _ _ _ _ _ _ _ _ _ _ _ _ _ _ _ _ _ (rfl:(_:Ctx)=fq P) (fun _ _ _ _ _ h e=>by rw[e];exact h) rfl rfl
 refine Bp (R:=fun σ=>(l9 (fq P) sh (vT E (fq P) ts rm ((List.range ds.length).map (1000000+·)) pm post r)).holds σ fun _=>True) (rm:=rm) (pm:=pm) hE hm hf h1 (yP h2 rfl) hres h3 (Nat.le_of_ble_eq_true h4) (Nat.le_of_ble_eq_true h5) rfl (fun t ht=>by have:=qzN.1 h6 t ht;simpa [Nat.blt_eq] using this) ?_ hb
 intro ρ σ a w hq hr
 obtain⟨ws,g1,g2⟩:=nr sh hr hq
 exact⟨_,g1,g2⟩
end Go.Vm
/- A box that is a row of an array: a contract about the box is one about the array. -/
namespace Go.Vm
section
variable {P:Program} {w w':World} {imm imm':Set}
theorem ai.beside (hi:Set.le imm imm') (he:∀y,imm y→w'.heap[y]? =w.heap[y]?) {b:Nat}:∀(cs:List A) (p:Nat) (S:Set),(∀y,S y→w'.heap[y]? =w.heap[y]?)→(∀j,j<cs.length→w'.cell? ⟨b,p+j,none⟩=w.cell? ⟨b,p+j,none⟩)→ai w imm none cs b p S→ai w' imm' none cs b p S
 |[],_,_,_,_,_=>by simp only[ai]
 |c::cs,p,S,hS,hc,h=>by
  simp only[ai] at h⊢
  obtain⟨v,S1,S2,h1,h2,h3,h4,h5,h6⟩:=h
  have e0:=hc 0 (by simp)
  refine⟨v,S1,S2,by rw[show p=p+0 by omega,e0];exact h1,?_,ai.beside hi he cs (p+1) S2 (fun y hy=>hS y (h5 y hy)) (fun j hj=>?_) h3,h4,h5,h6⟩
  ·exact CR.stable hi he none none _ _ _ _ trivial (Set.le_refl _) (fun y hy=>hS y (h4 y hy)) h2
  ·have:=hc (j+1) (by simpa using hj)
   rw[show p+1+j=p+(j+1) by omega];exact this
theorem aq.beside (hi:Set.le imm imm') (he:∀y,imm y→w'.heap[y]? =w.heap[y]?) {b k:Nat}:∀(rs:Rows) (p:Nat) (S:Set),(∀y,S y→w'.heap[y]? =w.heap[y]?)→(∀q,p≤q→q<p+rs.length * k→w'.cell? ⟨b,q,none⟩=w.cell? ⟨b,q,none⟩)→aq w imm none rs b p k S→aq w' imm' none rs b p k S
 |[],_,_,_,_,_=>by simp only[aq]
 |r::rs,p,S,hS,hc,h=>by
  simp only[aq] at h⊢
  obtain⟨S1,S2,h1,h2,h3,h4,h5,h6⟩:=h
  simp only[qzm,qzJ,Nat.one_mul] at hc
  refine⟨S1,S2,h1,ai.beside hi he r p S1 (fun y hy=>hS y (h4 y hy)) (fun j hj=>hc _ qom qom) h2,aq.beside hi he rs (p+k) S2 (fun y hy=>hS y (h5 y hy)) (fun q h7 h8=>hc q qom qom) h3,h4,h5,h6⟩
theorem iq.beside (hi:Set.le imm imm') (he:∀y,imm y→w'.heap[y]? =w.heap[y]?) {rows:Rows} {i b base k:Nat} {S:Set} (hl:i<rows.length) (hS:∀y,S y→w'.heap[y]? =w.heap[y]?)
  (hc:∀q,(q<base+i * k∨base+i * k+k≤q)→w'.cell? ⟨b,q,none⟩=w.cell? ⟨b,q,none⟩) (h:iq w imm rows i b base k S):iq w' imm' rows i b base k S:=by
 obtain⟨T1,T2,h1,h2,h3,h4,h5⟩:=h
 refine⟨T1,T2,aq.beside hi he _ _ _ (fun y hy=>hS y (h3 y hy)) (fun q h6 h7=>hc q ?_) h1,aq.beside hi he _ _ _ (fun y hy=>hS y (h4 y hy)) (fun q h6 h7=>hc q ?_) h2,h3,h4,h5⟩
 ·rw[qzZ,Nat.min_eq_left qom] at h7
  exact .inl h7
 ·rw[qzJ] at h6
  exact .inr qom
/-- boxes that are rows of arrays -/
inductive o7:List A→List A→List A→List A→Prop
 |nil:o7 [] [] [] []
 |same {d p:A} {ds ps ds' ps':List A} (h:o7 ds ps ds' ps'):o7 (d::ds) (p::ps) (d::ds') (p::ps')
 |row {cells cells':List A} {rows:Rows} {k i:Nat} {ds ps ds' ps':List A} (hr:rows[i]? =some cells) (hl:cells'.length=cells.length) (h:o7 ds ps ds' ps'):o7 (.obox cells::ds) (.obox cells'::ps) (.optr k rows i::ds') (.optr k (rows.set i cells') i::ps')

theorem o7.take {ds ps ds' ps':List A} (h:o7 ds ps ds' ps'):∀(vs:List Value) (S:Set),af w imm none ds' vs S→(∀b,S b→b<w.heap.size)→∃SL SK:Set,Set.le SL S∧Set.le SK S∧Set.dis SL SK∧af w imm none ds vs SK∧
  (∀(w':World) (imm' T:Set),Set.le imm imm'→(∀b,SL b→w'.heap[b]? =w.heap[b]?)→(∀b,imm b→w'.heap[b]? =w.heap[b]?)→aO w w'→KB (NS w w') ps vs→Set.dis T SL→af w' imm' none ps vs T→af w' imm' none ps' vs (fun b=>SL b∨T b)∧KB (NS w w') ps' vs):=by
 induction h with
 |nil=>
  intro vs S hv _
  cases vs with
  |nil=>exact⟨Set.no,Set.no,Set.no_le _,Set.no_le _,Set.no_dis _,by simp only[af],fun _ _ _ _ _ _ _ _ _ _=>⟨by simp only[af],KB.nil⟩⟩
  |cons=>simp only[af] at hv
 | @same d p ds ps ds' ps' _ ih=>
  intro vs S hv hlt
  cases vs with
  |nil=>simp only[af] at hv
  |cons v vs=>
   simp only[af] at hv
   obtain⟨S1,S2,h1,h2,h3,h4,h5⟩:=hv
   obtain⟨SL,SK,g1,g2,g3,g4,g5⟩:=ih vs S2 h2 fun b hb=>hlt b (h4 b hb)
   refine⟨SL,fun b=>S1 b∨SK b,Set.le_trans g1 h4,fun b hb=>hb.elim (h3 b) (fun z=>h4 b (g2 b z)),fun b hb hc=>hc.elim (fun z=>h5 b z (g1 b hb)) (g3 b hb),?_,?_⟩
   ·simp only[af]
    exact⟨S1,SK,h1,g4,fun b hb=>.inl hb,fun b hb=>.inr hb,fun b hb hc=>h5 b hb (g2 b hc)⟩
   ·intro w' imm' T q0 q1 q2 q3 q4 q5 q6
    simp only[af] at q6⊢
    obtain⟨T1,T2,t1,t2,t3,t4,t5⟩:=q6
    obtain⟨r1,r2⟩:=g5 w' imm' T2 q0 q1 q2 q3 (KB.cons.1 q4).2 (fun b hb=>q5 b (t4 b hb)) t2
    exact⟨⟨T1,fun b=>SL b∨T2 b,t1,r1,fun b hb=>.inr (t3 b hb),fun b hb=>hb.imp id (t4 b),fun b hb hc=>hc.elim (fun z=>q5 b (t3 b hb) z) (t5 b hb)⟩,KB.cons.2 ⟨(KB.cons.1 q4).1,r2⟩⟩
 | @row cells cells' rows k i ds ps ds' ps' hr hl _ ih=>
  intro vs S hv hlt
  cases vs with
  |nil=>simp only[af] at hv
  |cons v vs=>
   simp only[af] at hv
   obtain⟨S1,S2,h1,h2,h3,h4,h5⟩:=hv
   obtain⟨SL,SK,g1,g2,g3,g4,g5⟩:=ih vs S2 h2 fun b hb=>hlt b (h4 b hb)
   simp only[CR] at h1
   obtain⟨b,o,size,S',e,c1,c2,c3,c4,c5,c6⟩:=h1
   obtain⟨R1,R2,d1,d2,d3,d4,d5,d6,d7⟩:=aq.split rows o i S' cells c6 hr
   have hik:o+i * k+k≤o+rows.length * k:=by
    have:=qzp k (show i+1≤rows.length by omega)
    rw[qzJ] at this;omega
   refine⟨fun y=>R2 y∨SL y,fun y=>(y=b∨R1 y)∨SK y,fun y hy=>hy.elim (fun z=>h3 y (c3 y (d2 y z))) (fun z=>h4 y (g1 y z)),fun y hy=>hy.elim (fun z=>z.elim (fun z=>h3 y (z▸c1)) (fun z=>h3 y (c3 y (d1 y z)))) (fun z=>h4 y (g2 y z)),?_,?_,?_⟩
   ·intro y hy hc
    rcases hy with hy|hy <;> rcases hc with(rfl|hc)|hc
    ·exact c2 (d2 _ hy)
    ·exact d3 y hc hy
    ·exact h5 y (c3 y (d2 y hy)) (g2 y hc)
    ·exact h5 _ c1 (g1 _ hy)
    ·exact h5 y (c3 y (d1 y hc)) (g1 y hy)
    ·exact g3 y hy hc
   ·simp only[af]
    refine⟨fun y=>y=b∨R1 y,SK,?_,g4,fun y hy=>.inl hy,fun y hy=>.inr hy,fun y hy hc=>?_⟩
    ·simp only[CR]
     exact⟨b,o+i * k,size,R1,e,.inl rfl,fun z=>c2 (d1 b z),fun y hy=>.inr hy,c4,by omega,d6⟩
    ·rcases hy with rfl|hy
     ·exact h5 _ c1 (g2 _ hc)
     ·exact h5 y (c3 y (d1 y hy)) (g2 y hc)
   ·intro w' imm' T q0 q1 q2 q3 q4 q5 q6
    simp only[af] at q6⊢
    obtain⟨T1,T2,t1,t2,t3,t4,t5⟩:=q6
    obtain⟨r1,r2⟩:=g5 w' imm' T2 q0 (fun b hb=>q1 b (.inr hb)) q2 q3 (KB.cons.1 q4).2 (fun b hb hc=>q5 b (t4 b hb) (.inr hc)) t2
    refine⟨⟨fun y=>R2 y∨T1 y,fun y=>SL y∨T2 y,?_,r1,fun y hy=>hy.elim (fun z=>.inl (.inl z)) (fun z=>.inr (t3 y z)),fun y hy=>hy.elim (fun z=>.inl (.inr z)) (fun z=>.inr (t4 y z)),?_⟩,?_⟩
    ·simp only[CR] at t1⊢
     obtain⟨b',o',size',S'',e',f1,f2,f3,f4,f5,f6⟩:=t1
     rw[e] at e'
     simp only[Value.pointer.injEq,qzh,Addr.mk.injEq,and_true] at e'
     obtain⟨rfl,rfl⟩:=e'
     have hs:=Own.size_same c4 q3 f4
     subst hs
     have hcell:∀q,(q<o+i * k∨o+i * k+k≤q)→w'.cell? ⟨b,q,none⟩=w.cell? ⟨b,q,none⟩:=fun q hq=>by
      have h0:=(KB.cons.1 q4).1
      simp only[KB] at h0
      rcases h0.1 b (o+i * k) e with h0|h0
      ·have:=hlt b (h3 b c1);omega
      ·exact h0 q (by rw[hl,d4];exact hq)
     refine⟨b,o,_,fun y=>S'' y∨R2 y,e,.inr f1,fun z=>z.elim f2 (fun z=>c2 (d2 b z)),fun y hy=>hy.elim (fun z=>.inr (f3 y z)) .inl,f4,by rw[List.length_set];exact c5,?_⟩
     exact aq.join rows o i _ S'' R2 d5 (by rw[hl,d4]) f6 (iq.beside q0 q2 d5 (fun y hy=>q1 y (.inl hy)) hcell d7) (fun y hy=>.inl hy) (fun y hy=>.inr hy) (fun y hy hc=>q5 y (t3 y (f3 y hy)) (.inl hc))
    ·intro y hy hc
     rcases hy with hy|hy <;> rcases hc with hc|hc
     ·exact h5 y (c3 y (d2 y hy)) (g1 y hc)
     ·exact q5 y (t4 y hc) (.inl hy)
     ·exact q5 y (t3 y hy) (.inr hc)
     ·exact t5 y hy hc
    ·simp only[KB];exact r2

mutual
def noBox:A→Bool
 | .obox _=>false
 | .agg cs=>noBoxL cs
 | .tup cs=>noBoxL cs
 |_=>true
def noBoxL:List A→Bool
 |[]=>true
 |c::cs=>noBox c&&noBoxL cs
end
theorem KB.noBoxL {p:Nat→Nat→Nat→Prop}:∀(ds:List A) (us:List Value),Vm.noBoxL ds=true→KB p ds us
 |[],us,_=>by cases us <;> simp only[KB]
 |c::ds,[],_=>KB.nil
 |c::ds,u::us,h=>by
  simp only[Vm.noBoxL,qzf] at h
  have ih:=KB.noBoxL (p:=p) ds us h.2
  have h1:=h.1
  cases c <;> simp only[KB] <;> try exact ih
  ·simp[Vm.noBox] at h1
  ·simp only[Vm.noBox] at h1
   exact⟨fun vs _=>KB.noBoxL _ vs h1,ih⟩
  ·simp only[Vm.noBox] at h1
   exact⟨fun vs _=>KB.noBoxL _ vs h1,ih⟩
 termination_by ds=>SizeOf.sizeOf ds
theorem KB.noBox {p:Nat→Nat→Nat→Prop} {r:A} {v:Value} (h:noBox r=true):KB p [r] [v]:=KB.noBoxL [r] [v] (by simp only[Vm.noBoxL,h,Bool.and_self])

theorem ah.rowed {f:FuncId} {ds ps ds' ps':List A} {r:A} (h:ah P f ds ps r) (hr:noBox r=true) (hl:o7 ds ps ds' ps'):ah P f ds' ps' r:=by
 refine⟨h.1,fun w imm S vs hv hSi himm hS=>?_⟩
 obtain⟨SL,SK,g1,g2,g3,g4,g5⟩:=hl.take vs S hv hS
 refine Calls.mono' (h.2 w imm SK vs g4 (fun b hb=>hSi b (g2 b hb)) himm (fun b hb=>hS b (g2 b hb))) ?_
 intro e w' hq
 cases e with
 |returned v=>
  obtain⟨imm',T1,T2,q1,q2,q3,q4,q5,q6,q7,q8,q9,q10,q11,q12,q13,q14,q15,q16⟩:=hq
  have hT:∀b,T1 b∨T2 b→¬SL b:=fun b hb hc=>by
   rcases (q7 b hb).2 with h|h
   ·exact g3 b hc h
   ·have:=hS b (g1 b hc);omega
  obtain⟨r1,r2⟩:=g5 w' imm' T1 q1 (fun b hb=>q9 b (hS b (g1 b hb)) (g3 b hb)) (fun b hb=>q9 b (himm b hb) (fun z=>hSi b (g2 b z) hb)) q14 q15 (fun b hb=>hT b (.inl hb)) q2
  refine⟨imm',fun b=>SL b∨T1 b,T2,q1,r1,q3,fun b hb hc=>hb.elim (fun z=>hT b (.inr hc) z) (fun z=>q4 b z hc),fun b hb hc=>hb.elim (fun z=>?_) (fun z=>q5 b z hc),q6,fun b hb=>?_,fun b hb=>?_,fun b hb hno=>q9 b hb (fun z=>hno (g2 b z)),q10,q11,q12,q13,q14,r2,KB.noBox hr⟩
  ·rcases (q8 b hc).2 with h|h|h
   ·exact hSi b (g1 b z) h
   ·exact g3 b z h
   ·have:=hS b (g1 b z);omega
  ·have:SL b∨(T1 b∨T2 b):=by
    rcases hb with(hb|hb)|hb
    ·exact .inl hb
    ·exact .inr (.inl hb)
    ·exact .inr (.inr hb)
   rcases this with hb|hb
   ·exact⟨sd (hS b (g1 b hb)) q10,.inl (g1 b hb)⟩
   ·exact⟨(q7 b hb).1,(q7 b hb).2.imp (g2 b) id⟩
  ·exact⟨(q8 b hb).1,(q8 b hb).2.imp id fun z=>z.imp (g2 b) id⟩
 |panicked _=>exact hq
 |outgrown=>exact hq
/-- the same in the words of the printed texts -/
inductive qc (C:Ctx):List A→List A→List A→List A→Prop
 |nil:qc C [] [] [] []
 |same {d p:A} {ds ps ds' ps':List A} (h:qc C ds ps ds' ps'):qc C (d::ds) (p::ps) (d::ds') (p::ps')
 |row {cells cells':List A} {rows:Rows} {k i:Nat} {ds ps ds' ps':List A} (hr:C.At rows i cells) (hl:cells'.length=cells.length) (h:qc C ds ps ds' ps'):qc C (.obox cells::ds) (.obox cells'::ps) (.optr k rows i::ds') (.optr k (C.set rows i cells') i::ps')
theorem ah.rowedC {C:Ctx} (hC:C=fq P) {f:FuncId} {ds ps ds' ps':List A} {r:A} (h:ah P f ds ps r) (hr:noBox r=true) (hl:qc C ds ps ds' ps'):ah P f ds' ps' r:=by
 subst hC
 refine h.rowed hr ?_
 clear h
 induction hl with
 |nil=>exact .nil
 |same _ ih=>exact .same ih
 |row hr hl _ ih=>exact .row hr hl ih
end
end Go.Vm
/- Rows that move from one array to another with all that they own: what is known of rows of plain values holds of rows that own. -/
namespace Go.Vm
section
variable {P:Program} {w w':World} {imm imm':Set}
/-- rows of values, and what they own -/
def OpR (w:World) (imm:Set):Rows→List (List Value)→Set→Prop
 |[],[],_=>True
 |r::rs,vs::vss,S=>∃S1 S2,af w imm none r vs S1∧OpR w imm rs vss S2∧Set.le S1 S∧Set.le S2 S∧Set.dis S1 S2
 |_,_,_=>False
theorem af.len:∀(cs:List A) (vs:List Value) (S:Set),af w imm none cs vs S→cs.length=vs.length
 |[],[],_,_=>rfl
 |[],_::_,_,h=>by simp only[af] at h
 |_::_,[],_,h=>by simp only[af] at h
 |c::cs,v::vs,_,h=>by
  simp only[af] at h
  obtain⟨_,S2,_,h2,_⟩:=h
  rw[qzm,qzm,af.len cs vs S2 h2]
theorem OpR.len:∀(rs:Rows) (vss:List (List Value)) (S:Set),OpR w imm rs vss S→rs.length=vss.length
 |[],[],_,_=>rfl
 |[],_::_,_,h=>by simp only[OpR] at h
 |_::_,[],_,h=>by simp only[OpR] at h
 |r::rs,vs::vss,_,h=>by
  simp only[OpR] at h
  obtain⟨_,S2,_,h2,_⟩:=h
  rw[qzm,qzm,OpR.len rs vss S2 h2]
theorem OpR.stable (hi:Set.le imm imm') (he:∀b,imm b→w'.heap[b]? =w.heap[b]?):∀(rs:Rows) (vss:List (List Value)) (S:Set),(∀b,S b→w'.heap[b]? =w.heap[b]?)→OpR w imm rs vss S→OpR w' imm' rs vss S
 |[],[],_,_,_=>by simp only[OpR]
 |[],_::_,_,_,h=>by simp only[OpR] at h
 |_::_,[],_,_,h=>by simp only[OpR] at h
 |r::rs,vs::vss,S,hs,h=>by
  simp only[OpR] at h⊢
  obtain⟨S1,S2,h1,h2,h3,h4,h5⟩:=h
  exact⟨S1,S2,af.stable hi he none none r vs S1 S1 trivial (Set.le_refl _) (fun b hb=>hs b (h3 b hb)) h1,OpR.stable hi he rs vss S2 (fun b hb=>hs b (h4 b hb)) h2,h3,h4,h5⟩
theorem OpR.mono:∀(rs:Rows) (vss:List (List Value)) (S T:Set),Set.le S T→OpR w imm rs vss S→OpR w imm rs vss T
 |[],[],_,_,_,_=>by simp only[OpR]
 |[],_::_,_,_,_,h=>by simp only[OpR] at h
 |_::_,[],_,_,_,h=>by simp only[OpR] at h
 |r::rs,vs::vss,S,T,hs,h=>by
  simp only[OpR] at h⊢
  obtain⟨S1,S2,h1,h2,h3,h4,h5⟩:=h
  exact⟨S1,S2,h1,h2,Set.le_trans h3 hs,Set.le_trans h4 hs,h5⟩
end
end Go.Vm
/- Steps of the plain function and of the walk, side by side. -/
namespace Go.Vm
theorem rqI {α:Type} {c:Prop} [Decidable c] {x:Option α} {r:α} {G:Prop} (k:c→x=some r→G):req c x=some r→G:=fun h=>k (ae h).1 (ae h).2
theorem bdI {α β:Type} {x:Option α} {f:α→Option β} {r:β} {G:Prop} (k:∀y,x=some y→f y=some r→G):x.bind f=some r→G:=fun h=>by obtain⟨y,a,b⟩:=ag h;exact k y a b
theorem nnI {α:Type} {r:α} {G:Prop}:none=some r→G:=nofun
theorem iteG {α:Type} {c:Prop} [Decidable c] {x y:Option α} {r:α} (_:(if c then x else y)=some r):True:=trivial
theorem bindG {α β:Type} {x:Option α} {f:α→Option β} {r:β} (_:x.bind f=some r):True:=trivial
theorem mtT {t:Bool} {X Y:Prop} (h:t=true) (k:X):(match(generalizing:=false) t with|true=>X|false=>Y):=by subst h;exact k
theorem mtF {t:Bool} {X Y:Prop} (h:t=false) (k:Y):(match(generalizing:=false) t with|true=>X|false=>Y):=by subst h;exact k
/-- a test, in the walk and in the plain function -/
theorem bq {α:Type} {c:Prop} [Decidable c] {x y:Option α} {r:α} {t:Bool} {X Y:Prop} (h1:t=true→x=some r→X) (h2:t=false→y=some r→Y)
  (k1:t=true→c:=by intro f;cases hC;cases hQ;first|exact of_decide_eq_true f|exact eq_of_beq f|exact f|(simp at f⊢;first|done|with_reducible omega|exact f))
  (k2:t=false→¬c:=by intro f;cases hC;cases hQ;first|exact of_decide_eq_false f|exact ne_of_beq_false f|exact Bool.eq_false_iff.1 f|(simp at f⊢;first|done|with_reducible omega|exact f)):(if c then x else y)=some r→(match(generalizing:=false) t with|true=>X|false=>Y):=fun hh=>bcs (fun f=>h1 f (by rw[if_pos (k1 f)] at hh;exact hh)) (fun f=>h2 f (by rw[if_neg (k2 f)] at hh;exact hh))
theorem bn {α:Type} {c:Prop} [Decidable c] {x y:Option α} {r:α} {t:Bool} {X Y:Prop} (h1:t=true→y=some r→X) (h2:t=false→x=some r→Y)
  (k1:t=true→¬c:=by intro f;cases hC;cases hQ;(simp at f⊢;first|done|with_reducible exact f|with_reducible omega|exact f))
  (k2:t=false→c:=by intro f;cases hC;cases hQ;(simp at f⊢;first|done|with_reducible exact f|with_reducible omega|exact f)):(if c then x else y)=some r→(match(generalizing:=false) t with|true=>X|false=>Y):=fun hh=>bcs (fun f=>h1 f (by rw[if_neg (k1 f)] at hh;exact hh)) (fun f=>h2 f (by rw[if_pos (k2 f)] at hh;exact hh))
/-- a test in a test -/
theorem mmT {a p q:Bool} {X Y:Prop} (h:a=true) (k:(match(generalizing:=false) p with|true=>X|false=>Y)):(match(generalizing:=false) (match(generalizing:=false) a with|true=>p|false=>q) with|true=>X|false=>Y):=by subst h;exact k
theorem mmF {a p q:Bool} {X Y:Prop} (h:a=false) (k:(match(generalizing:=false) q with|true=>X|false=>Y)):(match(generalizing:=false) (match(generalizing:=false) a with|true=>p|false=>q) with|true=>X|false=>Y):=by subst h;exact k
theorem bqm {α:Type} {c:Prop} [Decidable c] {x y:Option α} {r:α} {a p q:Bool} {X Y:Prop} (h1:a=true→x=some r→(match(generalizing:=false) p with|true=>X|false=>Y)) (h2:a=false→y=some r→(match(generalizing:=false) q with|true=>X|false=>Y))
  (k1:a=true→c:=by intro f;cases hC;cases hQ;first|exact of_decide_eq_true f|exact eq_of_beq f|exact f|(simp at f⊢;first|done|with_reducible omega|exact f|fail)|fail) (k2:a=false→¬c:=by intro f;cases hC;cases hQ;first|exact of_decide_eq_false f|exact ne_of_beq_false f|exact Bool.eq_false_iff.1 f|(simp at f⊢;first|done|with_reducible omega|exact f|fail)|fail):(if c then x else y)=some r→(match(generalizing:=false) (match(generalizing:=false) a with|true=>p|false=>q) with|true=>X|false=>Y):=fun hh=>by
 cases e:a
 ·exact h2 e (by rw[if_neg (k2 e)] at hh;exact hh)
 ·exact h1 e (by rw[if_pos (k1 e)] at hh;exact hh)
theorem bnm {α:Type} {c:Prop} [Decidable c] {x y:Option α} {r:α} {a p q:Bool} {X Y:Prop} (h1:a=true→y=some r→(match(generalizing:=false) p with|true=>X|false=>Y)) (h2:a=false→x=some r→(match(generalizing:=false) q with|true=>X|false=>Y))
  (k1:a=true→¬c:=by intro f;cases hC;cases hQ;(simp at f⊢;first|done|with_reducible exact f|with_reducible omega|exact f|fail)) (k2:a=false→c:=by intro f;cases hC;cases hQ;(simp at f⊢;first|done|with_reducible exact f|with_reducible omega|exact f|fail)):(if c then x else y)=some r→(match(generalizing:=false) (match(generalizing:=false) a with|true=>p|false=>q) with|true=>X|false=>Y):=fun hh=>by
 cases e:a
 ·exact h2 e (by rw[if_pos (k2 e)] at hh;exact hh)
 ·exact h1 e (by rw[if_neg (k1 e)] at hh;exact hh)
/-- a call, in the walk and in the plain function -/
theorem cqI {P:Program} {Fn:FuncId→List A→List A→A→Prop} (hF:∀f ds ds' post r,ah P f ds' post r→ds=ds'→Fn f ds post r) {K:List A→A→Prop} {g:FuncId} {ds ds':List A} {α β:Type} {x:Option α} {f:α→Option β} {r:β} {post:α→List A} {res:α→A} (c:∀y,x=some y→ah P g ds' (post y) (res y)) (k:∀y,x=some y→f y=some r→K (post y) (res y))
  (e:ds=ds':=by cases hC;cases hQ;first|with_reducible rfl|(simp;done)|(simp;rfl)|(simp;exact qzD (by simp))):x.bind f=some r→∃post r,Fn g ds post r∧K post r:=fun h=>by
 obtain⟨y,a,b⟩:=ag h
 exact⟨_,_,hF _ _ _ _ _ (c y a) e,k y a b⟩
/-- what is wanted on the way -/
theorem Zc {g:Prop} (k:g:=by cases hC;cases hQ;(repeat' first|apply And.intro|exact True.intro|with_reducible assumption|((with_reducible refine decide_eq_true ?_);first|with_reducible assumption|with_reducible omega|(simp;done)|(simp;with_reducible omega)|fail)|((with_reducible refine decide_eq_false ?_);first|with_reducible assumption|with_reducible omega|(simp;done)|(simp;with_reducible omega)|fail)|(simp;done)|(simp;with_reducible omega)|(simp[plain,fV];done)|(simp[plain,fV];intro r hr;have qm:=vj (tn hr);simp at qm;obtain⟨a,_,rfl⟩:=qm;simp[plain,fV];done)|(simp[*];done)|(simp at *;first|done|with_reducible assumption|with_reducible omega|assumption|grind|fail)|fail);first|done|fail):g:=k
/-- a function's end -/
theorem Ec {g:Prop} (k:g:=by subst hr hp;cases hh;cases hC;cases hQ;(repeat' first|apply And.intro|exact True.intro|(with_reducible rfl)|(simp;done)|rfl|(simp;first|rfl|with_reducible omega|grind)|(simp[*];done)|fail);first|done|fail):g:=k
theorem rwH {α:Type} (row:α→List A) {l:List α} {i:Nat} {x:α} (_:l[i]? =some x) {Q:List A→Prop} (k:Q (row x)):∃xs,Q xs:=⟨_,k⟩
/-- a row that was read, by its kind -/
theorem Gk {α:Type} (row:α→List A) {l:List α} {i:Nat} {x:α} (h:l[i]? =some x) {T:Rows→Nat→List A→Prop} {R:Rows} {j:Nat} (k:l[i]? =some x→T R j (row x):=by intro h;cases hC;cases hQ;first|(simp[h];done)|(simp[h];rfl)|(simp at h⊢;simp[h];done)|(simp at h⊢;simp[h];rfl)|(simp at h⊢;exact⟨_,h,rfl⟩)|fail):T R j (row x):=k h
abbrev mA (κ:Key):A:=.mptr κ 1 0 0
abbrev rA (κ:Key) (n:Nat):A:=.ref κ 1 0 n
abbrev zA:A:=.lit (.slice none 0 0)
/-- which node stands for which -/
def He:A→A→List (Key×Key)
 | .ref κ _ _ _,.ref x _ _ _=>[(κ,x)]
 | .mptr κ _ _ _,.mptr x _ _ _=>[(κ,x)]
 |_,_=>[]
def ph:List A→List A→List (Key×Key)
 |a::as,b::bs=>He a b++ph as bs
 |_,_=>[]
def pair2:A→A→List (Key×Key)
 | .agg cs,.agg ds=>ph cs ds
 | .tup cs,.tup ds=>ph cs ds
 | .clo _ cs,.clo _ ds=>ph cs ds
 |a,b=>He a b
def Bm (l:List (Key×Key)):List (Key×Key)→List (Key×Key)
 |[]=>l
 |p::ps=>match eC p.1 l with
  |some _=>Bm l ps
  |none=>Bm (l++[p]) ps
def G9 (f:Nat→A):List (Nat×A)→List (Key×Key)
 |[]=>[]
 |(t,a)::l=>pair2 a (f t)++G9 f l
def Ej (σ τ:St):List (Key×Key)→List (Key×Key)
 |[]=>[]
 |(κ,x)::l=>(match lkN τ.heap κ.1 κ.2,lkN σ.heap x.1 x.2 with
  | .box _ cs,.box _ ds=>ph cs ds
  | .box _ cs,.fbox _ ds=>ph cs ds
  | .fbox _ cs,.box _ ds=>ph cs ds
  | .fbox _ cs,.fbox _ ds=>ph cs ds
  |_,_=>[])++Ej σ τ l
def Hn (σ τ:St):List (Key×Key):=let a:=Bm [] (G9 (lkS σ.slots) τ.slots);let b:=Bm a (Ej σ τ a);Bm b (Ej σ τ b)
theorem kB {σ τ:St} (h:Ak (Hn σ τ) σ τ):Cov σ τ:=bm _ h
abbrev U2 {α0 α1 ρ:Type} (f:Nat→α0→α1→Option ρ) (n:Nat) (i:α0×α1):Option ρ:=f n i.1 i.2
abbrev U3 {α0 α1 α2 ρ:Type} (f:Nat→α0→α1→α2→Option ρ) (n:Nat) (i:α0×α1×α2):Option ρ:=f n i.1 i.2.1 i.2.2
abbrev U4 {α0 α1 α2 α3 ρ:Type} (f:Nat→α0→α1→α2→α3→Option ρ) (n:Nat) (i:α0×α1×α2×α3):Option ρ:=f n i.1 i.2.1 i.2.2.1 i.2.2.2
abbrev U5 {α0 α1 α2 α3 α4 ρ:Type} (f:Nat→α0→α1→α2→α3→α4→Option ρ) (n:Nat) (i:α0×α1×α2×α3×α4):Option ρ:=f n i.1 i.2.1 i.2.2.1 i.2.2.2.1 i.2.2.2.2
abbrev U6 {α0 α1 α2 α3 α4 α5 ρ:Type} (f:Nat→α0→α1→α2→α3→α4→α5→Option ρ) (n:Nat) (i:α0×α1×α2×α3×α4×α5):Option ρ:=f n i.1 i.2.1 i.2.2.1 i.2.2.2.1 i.2.2.2.2.1 i.2.2.2.2.2
abbrev U7 {α0 α1 α2 α3 α4 α5 α6 ρ:Type} (f:Nat→α0→α1→α2→α3→α4→α5→α6→Option ρ) (n:Nat) (i:α0×α1×α2×α3×α4×α5×α6):Option ρ:=f n i.1 i.2.1 i.2.2.1 i.2.2.2.1 i.2.2.2.2.1 i.2.2.2.2.2.1 i.2.2.2.2.2.2
abbrev U8 {α0 α1 α2 α3 α4 α5 α6 α7 ρ:Type} (f:Nat→α0→α1→α2→α3→α4→α5→α6→α7→Option ρ) (n:Nat) (i:α0×α1×α2×α3×α4×α5×α6×α7):Option ρ:=f n i.1 i.2.1 i.2.2.1 i.2.2.2.1 i.2.2.2.2.1 i.2.2.2.2.2.1 i.2.2.2.2.2.2.1 i.2.2.2.2.2.2.2
abbrev U9 {α0 α1 α2 α3 α4 α5 α6 α7 α8 ρ:Type} (f:Nat→α0→α1→α2→α3→α4→α5→α6→α7→α8→Option ρ) (n:Nat) (i:α0×α1×α2×α3×α4×α5×α6×α7×α8):Option ρ:=f n i.1 i.2.1 i.2.2.1 i.2.2.2.1 i.2.2.2.2.1 i.2.2.2.2.2.1 i.2.2.2.2.2.2.1 i.2.2.2.2.2.2.2.1 i.2.2.2.2.2.2.2.2
abbrev RW (α:Type):Type:=List α→Rows
/-- a state stands for another -/
theorem kA {σ τ:St} (h:Ak (Hn σ τ) σ τ:=by cbv;first|done|((try simp only[oM] at e);(repeat (obtain⟨rfl,e⟩:=e));(try subst e);cases hC;cases hQ;(repeat' first|apply And.intro|exact True.intro|(with_reducible rfl)|(simp;done)|rfl|(simp;first|rfl|with_reducible omega|grind)|(simp[*];done)|fail);first|done|fail)):Cov σ τ:=bm _ h
theorem Jz {g:Prop} (k:g:=by (try simp only[oM] at e);(repeat (obtain⟨rfl,e⟩:=e));(try subst e);cases hC;cases hQ;(repeat' first|apply And.intro|exact True.intro|(with_reducible rfl)|(simp;done)|rfl|(simp;first|rfl|with_reducible omega|grind)|(simp[*];done)|fail);first|done|fail):g:=k
end Go.Vm
