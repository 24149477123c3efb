/- A small evaluator over the code of a program, and that it is sound, third part. -/
import Derived.Test.YtlbnmldopjadoaaGreatVb
import Derived.ChangeArms
import Derived.SizedLaws
/- A state that says less: slots forgotten, nodes renamed or frozen, nothing taken for a row of the frame's own. -/
namespace Go.Vm

def ef (κ:Key):List (Key×Key)→Option Key
 |[]=>none
 |(x,y)::l=>if κ.1=x.1 then(if κ.2=x.2 then some y else ef κ l) else ef κ l
def isK (x:Option Key) (κ:Key):Bool:=match x with
 |some y=>if y.1=κ.1 then(if y.2=κ.2 then true else false) else false
 |none=>false
def rv (κ:Key):List (Key×Key)→Bool
 |[]=>false
 |(_,y)::l=>if isK (some y) κ then true else rv κ l
def Bd:List (Key×Key)→Bool
 |[]=>true
 |(_,y)::l=>if rv y l then false else Bd l

def xF:Value→Bool
 | .slice none 0 0=>true
 |_=>false
theorem wl {v:Value} (h:xF v=true):v= .slice none 0 0:=by
 unfold xF at h
 split at h
 ·rfl
 ·cases h
mutual
def ji (ms:List (Key×Key)) (σ τ:St) (x:A):A→Prop
 | .hole=>True
 | .ref κ' g' i' n'=>match x with
  | .ref κ g i n=>isK (ef κ' ms) κ=true∧(lkN σ.heap κ.1 κ.2).gen=g∧(lkN τ.heap κ'.1 κ'.2).gen=g'∧i'=i∧n'=n
  | .lit v=>xF v=true∧ef κ' ms=none∧(lkN τ.heap κ'.1 κ'.2).gen=g'∧i'=0∧n'=0
  |_=>False
 | .mptr κ' g' i' o'=>match x with
  | .mptr κ g i o=>isK (ef κ' ms) κ=true∧(lkN σ.heap κ.1 κ.2).gen=g∧(lkN τ.heap κ'.1 κ'.2).gen=g'∧i'=i∧o'=o
  |_=>False
 | .tree rows=>match x with
  | .tree r=>rows=r
  | .lit v=>xF v=true∧rows=[]
  | .emp=>rows=[]
  |_=>False
 | .agg ds=>match x with
  | .agg cs=>nh ms σ τ cs ds
  |_=>False
 | .tup ds=>match x with
  | .tup cs=>nh ms σ τ cs ds
  |_=>False
 | .clo g ds=>match x with
  | .clo f cs=>f=g∧nh ms σ τ cs ds
  |_=>False
 | .lit u=>match x with
  | .lit v=>u=v
  |_=>False
 | .emp=>match x with
  | .emp=>True
  |_=>False
 | .iptr s p=>match x with
  | .iptr r o=>s=r∧p=o
  |_=>False
 |_=>False
def nh (ms:List (Key×Key)) (σ τ:St):List A→List A→Prop
 |[],[]=>True
 |c::cs,d::ds=>ji ms σ τ c d∧nh ms σ τ cs ds
 |_,_=>False
end
/-- cells where nil slices are taken for empty rows of one's own -/
inductive eF:List A→List A→Prop
 |nil:eF [] []
 |same (c:A) {cs ds:List A} (h:eF cs ds):eF (c::cs) (c::ds)
 |nilc (k:Nat) {cs ds:List A} (h:eF cs ds):eF (.lit (.slice none 0 0)::cs) (.inl k []::ds)
inductive lg:Rows→Rows→Prop
 |same (r:Rows):lg r r
 |rep (n:Nat) {z z':List A} (h:eF z z'):lg (List.replicate n z) (List.replicate n z')
@[simp] theorem FC (r:Rows):lg r r:=.same r
@[simp] theorem nilRows_rep (n:Nat) {z z':List A} (h:eF z z'):lg (List.replicate n z) (List.replicate n z'):=.rep n h
@[simp] theorem Fi:eF [] []:=.nil
@[simp] theorem E0 (c:A) (cs ds:List A):eF (c::cs) (c::ds)↔eF cs ds:=⟨fun h=>by cases h;assumption,.same c⟩
@[simp] theorem E1 (k:Nat) (cs ds:List A):eF (.lit (.slice none 0 0)::cs) (.inl k []::ds)↔eF cs ds:=⟨fun h=>by cases h;assumption,.nilc k⟩
theorem eF.ok {w:World} {imm:Set} {b:Nat} {cs ds:List A} (h:eF cs ds):ds.length=cs.length∧∀(o:Nat) (S:Set),aj w imm none cs b o S→aj w imm none ds b o S:=by
 induction h with
 |nil=>exact⟨rfl,fun _ _ h=>h⟩
 |same c _ ih=>
  refine⟨by simp[ih.1],fun o S h=>?_⟩
  simp only[aj] at h⊢
  obtain⟨v,S1,S2,h1,h2,h3,h4⟩:=h
  exact⟨v,S1,S2,h1,h2,ih.2 _ _ h3,h4⟩
 |nilc k _ ih=>
  refine⟨by simp[ih.1],fun o S h=>?_⟩
  simp only[aj] at h⊢
  obtain⟨v,S1,S2,h1,h2,h3,h4⟩:=h
  refine⟨v,S1,S2,h1,?_,ih.2 _ _ h3,h4⟩
  simp only[CR] at h2⊢
  subst h2
  exact⟨none,0,by simp,.inl ⟨rfl,rfl,trivial⟩⟩
theorem lg.ok {w:World} {imm:Set} {b:Nat} {rs rs':Rows} (h:lg rs rs'):rs'.length=rs.length∧∀(o k:Nat) (S:Set),aw w imm none rs b o k S→aw w imm none rs' b o k S:=by
 cases h with
 |same=>exact⟨rfl,fun _ _ _ h=>h⟩
 |rep n h=>
  refine⟨by simp,?_⟩
  obtain⟨h1,h2⟩:=h.ok (w:=w) (imm:=imm) (b:=b)
  induction n with
  |zero=>exact fun _ _ _ h=>h
  |succ n ih=>
   intro o k S hr
   simp only[List.replicate_succ,aw] at hr⊢
   obtain⟨S1,S2,g1,g2,g3,g4⟩:=hr
   exact⟨S1,S2,by rw[h1];exact g1,h2 _ _ g2,ih _ _ _ g3,g4⟩
/-- cells that lead to no node -/
def o3:List A→Bool
 |[]=>true
 | .lit _::l| .emp::l| .tree _::l=>o3 l
 |_=>false
theorem aj.data {w:World} {imm:Set} {Λ:Lam} {b:Nat}:∀{cs:List A} {o:Nat} {S:Set},o3 cs=true→aj w imm (some Λ) cs b o S→aj w imm none cs b o Set.no
 |[],_,_,_,_=>by simp only[aj]
 |c::cs,o,S,hd,h=>by
  simp only[aj] at h⊢
  obtain⟨v,S1,S2,h1,h2,h3,_⟩:=h
  have hc:CR w imm none c v Set.no∧o3 cs=true:=by
   cases c <;> simp only[o3] at hd <;> first|(cases hd;done)|(refine⟨?_,hd⟩;simp only[CR] at h2⊢;exact h2)
  exact⟨v,Set.no,Set.no,h1,hc.1,aj.data hc.2 h3,Set.no_le _,Set.no_le _,Set.no_dis _⟩
def pH (ms:List (Key×Key)) (σ τ:St):HN→HN→Prop
 |_,.dead _=>True
 | .box _ cs,.box _ ds=>nh ms σ τ cs ds
 | .arr _ k rows,.arr _ k' rows'=>k'=k∧lg rows rows'
 | .opn _ k rows i row,.opn _ k' rows' i' row'=>k'=k∧rows'=rows∧i'=i∧nh ms σ τ row row'
 | .fbox _ cs,.fbox _ ds=>ds=cs
 | .box _ cs,.fbox _ ds=>ds=cs∧o3 cs=true
 | .farr _ k rows,.farr _ k' rows'=>k'=k∧rows'=rows
 | .arr _ k rows,.farr _ k' rows'=>k'=k∧rows'=aI rows
 |_,_=>False
def AS (ms:List (Key×Key)) (σ τ:St):List (Nat×A)→Prop
 |[]=>True
 |(t,b)::l=>ji ms σ τ (lkS σ.slots t) b∧AS ms σ τ l
def AK (ms:List (Key×Key)) (σ τ:St):List (Key×HN)→Prop
 |[]=>True
 |(κ',n)::l=>(match ef κ' ms with
   |some κ=>pH ms σ τ (lkN σ.heap κ.1 κ.2) n
   |none=>match n with
    | .arr _ _ rows=>rows=[]
    | .dead _=>True
    |_=>False)∧AK ms σ τ l
def Ej (ms:List (Key×Key)) (σ τ:St):Prop:=Bd ms=true∧AS ms σ τ τ.slots∧AK ms σ τ τ.heap

theorem rW (x:Option Key) (κ:Key):isK x κ=true↔x=some κ:=by
 obtain⟨a,b⟩:=κ
 cases x with
 |none=>simp[isK]
 |some y=>
  obtain⟨c,d⟩:=y
  simp[isK]
theorem nP {κ y:Key}:∀{l:List (Key×Key)},ef κ l=some y→(κ,y)∈l
 |(x,z)::l,h=>by
  obtain⟨a,b⟩:=κ
  obtain⟨c,d⟩:=x
  simp only[ef] at h
  split at h
  ·rename_i h1
   split at h
   ·rename_i h2
    cases h
    rw[h1,h2]
    exact List.mem_cons_self
   ·exact List.mem_cons_of_mem _ (nP h)
  ·exact List.mem_cons_of_mem _ (nP h)
theorem tV (κ:Key):∀l:List (Key×Key),rv κ l=true↔∃x,(x,κ)∈l
 |[]=>by simp[rv]
 |(x,y)::l=>by
  simp only[rv]
  by_cases h:isK (some y) κ=true
  ·rw[if_pos h]
   have:=(rW _ _).1 h
   cases this
   simp only[true_iff]
   exact⟨x,List.mem_cons_self⟩
  ·rw[if_neg h,tV κ l]
   have:y≠κ:=fun e=>h ((rW _ _).2 (by rw[e]))
   constructor
   ·rintro⟨z,hz⟩;exact⟨z,List.mem_cons_of_mem _ hz⟩
   ·rintro⟨z,hz⟩
    rcases List.mem_cons.1 hz with e|hz
    ·cases e;exact absurd rfl this
    ·exact⟨z,hz⟩
theorem Ax {y:Key}:∀{l:List (Key×Key)} {x x':Key},Bd l=true→(x,y)∈l→(x',y)∈l→x=x'
 |(z,u)::l,x,x',hi,h,h'=>by
  simp only[Bd] at hi
  split at hi
  ·cases hi
  ·rename_i hv
   have hno:∀q,(q,u)∉l:=fun q hq=>hv ((tV u l).2 ⟨q,hq⟩)
   rcases List.mem_cons.1 h with e|h1
   ·cases e
    rcases List.mem_cons.1 h' with e|h2
    ·cases e;rfl
    ·exact absurd h2 (hno x')
   ·rcases List.mem_cons.1 h' with e|h2
    ·cases e;exact(hno x h1).elim
    ·exact Ax hi h1 h2

section
variable {w:World} {σ τ:St} {ms:List (Key×Key)} {ρ:Env} {a:Act} {imm:Set} {Λ:Lam} {F:Key→Set}

/-- how the nodes are known after -/
def gY (ms:List (Key×Key)) (τ:St) (Λ:Lam):Lam:=fun κ'=>match ef κ' ms,lkN τ.heap κ'.1 κ'.2 with
 |_,.dead g=>⟨g,.gone,0,0⟩
 |some κ,n=>{ Λ κ with gen:=n.gen }
 |none,.arr g k _=>⟨g,.nil,k,0⟩
 |none,n=>⟨n.gen,.gone,0,0⟩
def keeps:HN→Bool
 | .dead _| .farr _ _ _| .fbox _ _=>false
 |_=>true
def xI (ms:List (Key×Key)) (τ:St) (F:Key→Set):Key→Set:=fun κ'=>match ef κ' ms with
 |some κ=>if keeps (lkN τ.heap κ'.1 κ'.2) then F κ else Set.no
 |none=>Set.no
def Fd (ms:List (Key×Key)) (τ:St) (F:Key→Set) (imm:Set):Set:=fun b=>imm b∨∃κ' κ,ef κ' ms=some κ∧keeps (lkN τ.heap κ'.1 κ'.2)=false∧F κ b

theorem FQ {imm:Set} {κ κ':Key} {g g' i n:Nat} {u:Value} (hk:isK (ef κ' ms) κ=true) (hg:(lkN σ.heap κ.1 κ.2).gen=g) (hg':(lkN τ.heap κ'.1 κ'.2).gen=g') (h:aH ρ σ a w imm Λ F) (hr:eA (Λ κ) g i n u):eA (gY ms τ Λ κ') g' i n u:=by
 have hf:=(rW _ _).1 hk
 have hgen:=pW h κ
 have h1:=hr.2.1 (by rw[hgen,hg])
 unfold gY
 rw[hf]
 cases hn:lkN τ.heap κ'.1 κ'.2 with
 |dead q=>rw[hn] at hg';simp only[HN.gen] at hg';subst hg';exact⟨Nat.le_refl _,fun _=>trivial,hr.2.2⟩
 |_=>rw[hn] at hg';subst hg';exact⟨Nat.le_refl _,fun _=>h1,hr.2.2⟩
theorem F0 {imm:Set} {κ κ':Key} {g g' i o:Nat} {u:Value} (hk:isK (ef κ' ms) κ=true) (hg:(lkN σ.heap κ.1 κ.2).gen=g) (hg':(lkN τ.heap κ'.1 κ'.2).gen=g') (h:aH ρ σ a w imm Λ F) (hr:ed (Λ κ) g i o u):ed (gY ms τ Λ κ') g' i o u:=by
 have hf:=(rW _ _).1 hk
 have hgen:=pW h κ
 have h1:=hr.2.1 (by rw[hgen,hg])
 unfold gY
 rw[hf]
 cases hn:lkN τ.heap κ'.1 κ'.2 with
 |dead q=>rw[hn] at hg';simp only[HN.gen] at hg';subst hg';exact⟨Nat.le_refl _,fun _=>trivial,hr.2.2⟩
 |_=>rw[hn] at hg';subst hg';exact⟨Nat.le_refl _,fun _=>h1,hr.2.2⟩

def xA (ms:List (Key×Key)) (τ:St):Prop:=∀κ':Key,ef κ' ms=none→(match lkN τ.heap κ'.1 κ'.2 with| .arr _ _ rows=>rows=[]| .dead _=>True|_=>False)
mutual
theorem CH (h:aH ρ σ a w imm Λ F) (hN:xA ms τ) {imm':Set} (hi:Set.le imm imm'):∀(x y:A) (v:Value) (S:Set),ji ms σ τ x y→CR w imm (some Λ) x v S→CR w imm' (some (gY ms τ Λ)) y v S
 |x,.hole,v,S,_,_=>by simp only[CR]
 |x,.ref κ' g' i' n',v,S,hc,hx=>by
  cases x <;> simp only[ji] at hc
  ·rename_i u
   obtain⟨h0,h1,h2,rfl,rfl⟩:=hc
   have:=wl h0
   subst this
   have hv:=bI hx
   subst hv
   simp only[CR]
   have hn:=hN κ' h1
   unfold gY
   rw[h1]
   cases hq:lkN τ.heap κ'.1 κ'.2 with
   |dead q=>rw[hq] at h2;simp only[HN.gen] at h2;subst h2;exact⟨Nat.le_refl _,fun _=>trivial,_,_,_,rfl⟩
   |arr g k rows=>rw[hq] at h2;simp only[HN.gen] at h2;subst h2;exact⟨Nat.le_refl _,fun _=>⟨rfl,rfl,rfl⟩,_,_,_,rfl⟩
   |_=>rw[hq] at hn;exact hn.elim
  ·simp only[CR] at hx⊢
   obtain⟨h1,h2,h3,rfl,rfl⟩:=hc
   exact FQ h1 h2 h3 h hx
 |x,.mptr κ' g' i' n',v,S,hc,hx=>by
  cases x <;> simp only[ji] at hc
  simp only[CR] at hx⊢
  obtain⟨h1,h2,h3,rfl,rfl⟩:=hc
  exact F0 h1 h2 h3 h hx
 |x,.tree rows,v,S,hc,hx=>by
  cases x <;> simp only[ji] at hc
  ·obtain⟨h0,rfl⟩:=hc
   have:=wl h0
   subst this
   have hv:=bI hx
   subst hv
   simp only[CR]
   exact⟨none,0,rfl,Nat.le_refl _,.inl trivial⟩
  ·subst hc
   simp only[CR] at hx⊢
   obtain⟨ad,e⟩:=hx
   exact⟨ad,0,e,Nat.le_refl _,.inl trivial⟩
  ·subst hc
   exact CR.any _ _ _ _ _ _ (CR.stable hi (fun _ _=>rfl) none none _ _ _ _ trivial (Set.le_refl _) (fun _ _=>rfl) (show CR w imm none (.tree rows) v S by simp only[CR] at hx⊢;exact hx))
 |x,.agg ds,v,S,hc,hx=>by
  cases x <;> simp only[ji] at hc
  simp only[CR] at hx⊢
  obtain⟨vs,e,hx⟩:=hx
  exact⟨vs,e,rD h hN hi _ ds vs S hc hx⟩
 |x,.tup ds,v,S,hc,hx=>by
  cases x <;> simp only[ji] at hc
  simp only[CR] at hx⊢
  obtain⟨vs,e,hx⟩:=hx
  exact⟨vs,e,rD h hN hi _ ds vs S hc hx⟩
 |x,.clo g ds,v,S,hc,hx=>by
  cases x <;> simp only[ji] at hc
  simp only[CR] at hx⊢
  obtain⟨rfl,hc⟩:=hc
  obtain⟨vs,e,hx⟩:=hx
  exact⟨vs,e,rD h hN hi _ ds vs _ hc hx⟩
 |x,.lit u,v,S,hc,hx=>by
  cases x <;> simp only[ji] at hc
  subst hc
  simp only[CR] at hx⊢;exact hx
 |x,.emp,v,S,hc,hx=>by
  cases x <;> simp only[ji] at hc
  simp only[CR] at hx⊢;exact hx
 |x,.iptr s p,v,S,hc,hx=>by
  cases x <;> simp only[ji] at hc
  obtain⟨rfl,rfl⟩:=hc
  exact CR.any _ _ _ _ _ _ (CR.stable hi (fun _ _=>rfl) none none _ _ _ _ trivial (Set.le_refl _) (fun _ _=>rfl) (show CR w imm none (.iptr s p) v S by simp only[CR] at hx⊢;exact hx))
 |x,.inl _ _,v,S,hc,_=>by simp only[ji] at hc
 |x,.obox _,v,S,hc,_=>by simp only[ji] at hc
 |x,.optr _ _ _,v,S,hc,_=>by simp only[ji] at hc
theorem rD (h:aH ρ σ a w imm Λ F) (hN:xA ms τ) {imm':Set} (hi:Set.le imm imm'):∀(xs ys:List A) (vs:List Value) (S:Set),nh ms σ τ xs ys→ah w imm (some Λ) xs vs S→ah w imm' (some (gY ms τ Λ)) ys vs S
 |[],[],[],S,_,_=>by simp only[ah]
 |x::xs,y::ys,v::vs,S,hc,hx=>by
  simp only[nh] at hc
  simp only[ah] at hx⊢
  obtain⟨S1,S2,h1,h2,h3⟩:=hx
  exact⟨S1,S2,CH h hN hi x y v S1 hc.1 h1,rD h hN hi xs ys vs S2 hc.2 h2,h3⟩
 |[],_::_,_,_,hc,_=>by simp only[nh] at hc
 |_::_,[],_,_,hc,_=>by simp only[nh] at hc
 |[],[],_::_,_,_,hx=>by simp only[ah] at hx
 |_::_,_::_,[],_,_,hx=>by simp only[ah] at hx
end

theorem yd (h:aH ρ σ a w imm Λ F) (hN:xA ms τ) {imm':Set} (hi:Set.le imm imm') {xs ys:List A} {b o:Nat} {S:Set} (hc:nh ms σ τ xs ys) (hx:aj w imm (some Λ) xs b o S):aj w imm' (some (gY ms τ Λ)) ys b o S∧ys.length=xs.length:=by
 obtain⟨vs,h1,h2,h3⟩:=aj.vals _ _ _ hx
 have:=rD h hN hi xs ys vs S hc h3
 exact⟨aj.of_vals this h2,by rw[←this.length,h1]⟩

theorem EC {l:List (Nat×A)}:AS ms σ τ l→∀t,ji ms σ τ (lkS σ.slots t) (lkS l t):=by
 induction l with
 |nil=>intro _ t;simp only[lkS,ji]
 |cons p l ih=>
  obtain⟨u,b⟩:=p
  intro h t
  simp only[AS] at h
  rw[df]
  by_cases e:t=u
  ·subst e;rw[if_pos rfl];exact h.1
  ·rw[if_neg e];exact ih h.2 t
theorem EN {l:List (Key×HN)}:AK ms σ τ l→∀κ':Key,match ef κ' ms with
   |some κ=>pH ms σ τ (lkN σ.heap κ.1 κ.2) (lkN l κ'.1 κ'.2)
   |none=>match lkN l κ'.1 κ'.2 with
    | .arr _ _ rows=>rows=[]
    | .dead _=>True
    |_=>False:=by
 induction l with
 |nil=>
  intro _ κ'
  cases hf:ef κ' ms with
  |some κ=>simp only[lkN];cases lkN σ.heap κ.1 κ.2 <;> simp only[pH]
  |none=>simp only[lkN]
 |cons p l ih=>
  obtain⟨u,n⟩:=p
  intro h κ'
  simp only[AK] at h
  rw[aY]
  by_cases e:κ'=u
  ·subst e;rw[if_pos rfl];exact h.1
  ·rw[if_neg e];exact ih h.2 κ'

theorem aq (ms:List (Key×Key)) (hc:Ej ms σ τ):Cov σ τ:=by
 rintro ρ a w ⟨imm,Λ,F,h⟩
 obtain⟨hinj,hS,hH⟩:=hc
 have hat:=EN hH
 have hN:xA ms τ:=fun κ' hk=>by have:=hat κ';rw[hk] at this;exact this
 have hi:Set.le imm (Fd ms τ F imm):=fun b hb=>.inl hb
 have inj:∀{κ1 κ2 y:Key},ef κ1 ms=some y→ef κ2 ms=some y→κ1=κ2:=fun h1 h2=>Ax hinj (nP h1) (nP h2)
 have hFsub:∀κ' b,xI ms τ F κ' b→∃κ,ef κ' ms=some κ∧keeps (lkN τ.heap κ'.1 κ'.2)=true∧F κ b:=by
  intro κ' b hb
  cases hf:ef κ' ms with
  |none=>simp only[xI,hf] at hb;exact hb.elim
  |some κ=>
   simp only[xI,hf] at hb
   cases hk:keeps (lkN τ.heap κ'.1 κ'.2) with
   |true=>rw[hk] at hb;exact⟨κ,rfl,rfl,hb⟩
   |false=>rw[hk] at hb;exact hb.elim
 refine⟨Fd ms τ F imm,gY ms τ Λ,xI ms τ F,{ size:=h.size,nlt:=h.nlt,slots:=fun t=>CH h hN hi _ _ _ _ (EC hS t) (h.slots t),nodes:=fun κ'=>?_,dis:=fun κ1 κ2 hne b h1 h2=>?_,fimm:=fun κ' b hb hb2=>?_,flt:=fun κ' b hb=>?_,immlt:=fun b hb=>?_,imm0:=Set.le_trans h.imm0 hi,keep:=h.keep,grow:=h.grow,os:=h.os,defers:=h.defers,rs:=fun κ'=>?_ }⟩
 rotate_right
 ·have hk:=hat κ'
  have hr:=fun κ (_:ef κ' ms=some κ)=>h.rs κ
  have hNR:∀κ,ef κ' ms=some κ→NR w imm Λ (Λ κ) (lkN σ.heap κ.1 κ.2) (F κ):=fun κ _=>h.nodes κ
  unfold gY
  cases hf:ef κ' ms with
  |none=>
   rw[hf] at hk
   simp only at hk⊢
   cases hq:lkN τ.heap κ'.1 κ'.2 with
   |box g ds=>rw[hq] at hk;exact hk.elim
   |_=>trivial
  |some κ=>
   rw[hf] at hk
   have hn:=hNR κ hf
   have hr:=hr κ hf
   simp only at hk⊢
   cases hq:lkN τ.heap κ'.1 κ'.2 with
   |box g ds=>
    rw[hq] at hk
    cases hs:lkN σ.heap κ.1 κ.2 <;> rw[hs] at hk hn hr <;> simp only[pH] at hk
    obtain⟨h1,h2,h3,b,base,size,S',h4,h5,h6,h7,h8,h9,h10⟩:=hn
    obtain⟨q1,q2⟩:=yd h hN hi hk h10
    intro b0 base0 size0 e0
    rw[q2]
    exact hr b0 base0 size0 e0
   |_=>trivial
 ·have hk:=hat κ'
  have hNR:∀κ,ef κ' ms=some κ→NR w imm Λ (Λ κ) (lkN σ.heap κ.1 κ.2) (F κ):=fun κ _=>h.nodes κ
  unfold gY xI
  cases hf:ef κ' ms with
  |none=>
   rw[hf] at hk
   simp only at hk⊢
   cases hq:lkN τ.heap κ'.1 κ'.2 with
   |dead g=>exact⟨rfl,rfl⟩
   |arr g k rows=>rw[hq] at hk;simp only at hk;subst hk;exact⟨rfl,rfl,rfl,.inl ⟨rfl,rfl⟩⟩
   |_=>rw[hq] at hk;exact hk.elim
  |some κ=>
   rw[hf] at hk
   have hn:=hNR κ hf
   simp only at hk⊢
   have hlam:gY ms τ Λ=gY ms τ Λ:=rfl
   cases hq:lkN τ.heap κ'.1 κ'.2 with
   |dead g=>exact⟨rfl,rfl⟩
   |box g ds=>
    rw[hq] at hk
    cases hs:lkN σ.heap κ.1 κ.2 <;> rw[hs] at hk hn <;> simp only[pH] at hk
    obtain⟨h1,h2,h3,b,base,size,S',h4,h5,h6,h7,h8,h9,h10⟩:=hn
    obtain⟨q1,q2⟩:=yd h hN hi hk h10
    exact⟨rfl,by rw[q2];exact h2,h3,b,base,size,S',h4,by simpa [keeps] using h5,h6,by simpa [keeps] using h7,h8,by rw[q2];exact h9,q1⟩
   |arr g k rows=>
    rw[hq] at hk
    cases hs:lkN σ.heap κ.1 κ.2 <;> rw[hs] at hk hn <;> simp only[pH] at hk
    obtain⟨rfl,hk⟩:=hk
    obtain⟨h1,h2,h3,h4⟩:=hn
    have hlen:=(hk.ok (w:=w) (imm:=imm) (b:=0)).1
    refine⟨rfl,h2,by rw[hlen];exact h3,h4.imp (fun z=>⟨z.1,List.eq_nil_of_length_eq_zero (by rw[hlen,z.2];rfl)⟩) ?_⟩
    rintro⟨b,base,size,S',h5,h6,h7,h8,h9,h10,h11⟩
    replace h11:=(hk.ok (w:=w) (imm:=imm) (b:=b)).2 _ _ _ h11
    exact⟨b,base,size,S',h5,by simpa [keeps] using h6,h7,by simpa [keeps] using h8,h9,by rw[hlen];exact h10,aw.stable hi (fun _ _=>rfl) none none _ _ _ _ _ _ trivial (Set.le_refl _) rfl (fun _ _=>rfl) h11⟩
   |opn g k rows i row=>
    rw[hq] at hk
    cases hs:lkN σ.heap κ.1 κ.2 <;> rw[hs] at hk hn <;> simp only[pH] at hk
    obtain⟨rfl,rfl,rfl,hk⟩:=hk
    obtain⟨h1,h2,h3,b,base,size,S1,S2,h4,h5,h6,h7,h8,h9,h10,h11,h12,h13,h14,h15,h16⟩:=hn
    obtain⟨q1,q2⟩:=yd h hN hi hk h15
    exact⟨rfl,h2,h3,b,base,size,S1,S2,h4,by simpa [keeps] using h5,h6,h7,by simpa [keeps] using h8,by simpa [keeps] using h9,h10,h11,h12,h13,by rw[q2];exact h14,q1,gM.stable hi (fun _ _=>rfl) rfl (fun _ _=>rfl) h16⟩
   |fbox g ds=>
    rw[hq] at hk
    cases hs:lkN σ.heap κ.1 κ.2 <;> rw[hs] at hk hn <;> simp only[pH] at hk
    ·obtain⟨rfl,hk⟩:=hk
     obtain⟨h1,h2,h3,b,base,size,S',h4,h5,h6,h7,h8,h9,h10⟩:=hn
     exact⟨rfl,h2,h3,b,base,size,h4,.inr ⟨κ',κ,hf,by rw[hq];rfl,h5⟩,aj.stable hi (fun _ _=>rfl) none none _ _ _ _ _ trivial (Set.le_refl _) rfl (fun _ _=>rfl) (aj.data hk h10)⟩
    subst hk
    obtain⟨h1,h2,h3,b,base,size,h4,h5,h6⟩:=hn
    exact⟨rfl,h2,h3,b,base,size,h4,hi b h5,aj.stable hi (fun _ _=>rfl) none none _ _ _ _ _ trivial (Set.le_refl _) rfl (fun _ _=>rfl) h6⟩
   |farr g k rows=>
    rw[hq] at hk
    cases hs:lkN σ.heap κ.1 κ.2 <;> rw[hs] at hk hn <;> simp only[pH] at hk
    ·obtain⟨rfl,rfl⟩:=hk
     obtain⟨h1,h2,h3,h4⟩:=hn
     refine⟨rfl,h2,by rw[fE];exact h3,?_⟩
     rcases h4 with⟨h5,rfl⟩|⟨b,base,size,S',h5,h6,h7,h8,h9,h10,h11⟩
     ·exact .inl ⟨h5,rfl⟩
     ·exact .inr ⟨b,base,size,h5,.inr ⟨κ',κ,hf,by rw[hq];rfl,h6⟩,aw.freeze hi _ _ _ _ _ h11 (fun y hy=>.inr ⟨κ',κ,hf,by rw[hq];rfl,h8 y hy⟩)⟩
    ·obtain⟨rfl,rfl⟩:=hk
     obtain⟨h1,h2,h3,h4⟩:=hn
     refine⟨rfl,h2,h3,h4.imp id ?_⟩
     rintro⟨b,base,size,h5,h6,h7⟩
     exact⟨b,base,size,h5,hi b h6,aw.stable hi (fun _ _=>rfl) none none _ _ _ _ _ _ trivial (Set.le_refl _) rfl (fun _ _=>rfl) h7⟩
 ·obtain⟨y1,f1,_,hF1⟩:=hFsub κ1 b h1
  obtain⟨y2,f2,_,hF2⟩:=hFsub κ2 b h2
  by_cases e:y1=y2
  ·subst e;exact hne (inj f1 f2)
  ·exact h.dis y1 y2 e b hF1 hF2
 ·obtain⟨y1,f1,k1,hF1⟩:=hFsub κ' b hb
  rcases hb2 with hb2|⟨κ2,y2,f2,k2,hF2⟩
  ·exact h.fimm y1 b hF1 hb2
  ·by_cases e:y1=y2
   ·subst e
    have:=inj f1 f2
    subst this
    rw[k1] at k2;cases k2
   ·exact h.dis y1 y2 e b hF1 hF2
 ·obtain⟨y1,_,_,hF1⟩:=hFsub κ' b hb
  exact h.flt y1 b hF1
 ·rcases hb with hb|⟨κ2,y2,_,_,hF2⟩
  ·exact h.immlt b hb
  ·exact⟨(h.flt y2 b hF2).1,.inr (h.flt y2 b hF2).2⟩
end
end Go.Vm
/- Type tables, checked by computation. -/
namespace Go.Vm

inductive Tr (α:Type) where
 |leaf
 |node (l:Tr α) (k:Nat) (v:α) (r:Tr α)
def Tr.get {α:Type} (d:α):Tr α→Nat→α
 | .leaf,_=>d
 | .node l k v r,x=>if Nat.beq x k then v else if Nat.blt x k then l.get d x else r.get d x
def Tr.all {α:Type} (p:Nat→α→Bool):Tr α→Bool
 | .leaf=>true
 | .node l k v r=>if l.all p then(if p k v then r.all p else false) else false

def BA:TypeDesc→TD→Bool
 | .int k,.int k'=>k==k'
 | .bool,.bool=>true
 | .string,.str=>true
 | .slice e,.slice e'=>e==e'
 | .pointer e,.ptr e'=>e==e'
 | .struct fields,.struct fs=>fields.toList.map (fun f=>(f.offset,f.type))==fs
 | .func _ _ _,.other=>true
 |_,_=>false
/-- a zero cell -/
inductive Z where
 |int (k:IntKind)|bool|str|slice|ptr|func
def Z.val:Z→Value
 | .int k=>.int k 0
 | .bool=>.bool false
 | .str=>.string ⟨#[]⟩
 | .slice=>.slice none 0 0
 | .ptr=>.pointer none
 | .func=>.nilFunc
def Z.is:Z→Value→Bool
 | .int k,.int k' n=>k==k'&&n==0
 | .bool,.bool b=> !b
 | .str,.string s=>s.data.size==0
 | .slice,.slice none 0 0=>true
 | .ptr,.pointer none=>true
 | .func,.nilFunc=>true
 |_,_=>false
theorem Z.is_eq {z:Z} {v:Value} (h:z.is v=true):v=z.val:=by
 unfold Z.is at h
 split at h
 ·simp only[Bool.and_eq_true,beq_iff_eq] at h;obtain⟨rfl,rfl⟩:=h;rfl
 ·rename_i b;cases b <;> simp at h;rfl
 ·rename_i s
  obtain⟨d⟩:=s
  have:d= #[]:=Array.eq_empty_of_size_eq_zero (by simpa using h)
  subst this;rfl
 ·rfl
 ·rfl
 ·rfl
 ·cases h
def zsB:List Z→List Value→Bool
 |[],[]=>true
 |z::zs,v::vs=>if z.is v then zsB zs vs else false
 |_,_=>false
theorem CN:∀{zs:List Z} {vs:List Value},zsB zs vs=true→vs=zs.map Z.val
 |[],[],_=>rfl
 |z::zs,v::vs,h=>by
  simp only[zsB] at h
  split at h
  ·rename_i h1;rw[Z.is_eq h1,CN h];rfl
  ·cases h
 |[],_::_,h=>by cases h
 |_::_,[],h=>by cases h

structure TZ where
 td:TD
 size:Nat
 bytes:Nat
 zs:List Z
 flat:Bool
def TZ.info (x:TZ):TI:=⟨x.td,x.size,x.bytes,x.zs.map fun z=>.lit z.val,x.flat⟩
def yR (P:Program) (t:Nat):Bool:= !P.stoodInHeld t&& !P.eqGuardType P.depth t&&match P.underlying t with
 |some (.struct fs)=>match fs.toList with
  | [f0, f1, f2] => f0.offset == 0 && f1.offset == 1 && f2.offset == 2 && f0.name != "_" && f1.name != "_" && f2.name != "_" && (match P.underlying f0.type, P.underlying f1.type, P.underlying f2.type with
   |some (.int _),some (.int _),some (.int _)=>true
   |_,_,_=>false)
  |_=>false
 |_=>false
theorem Dj {P:Program} {t:Nat} (h:yR P t=true):uw P t:=by
 unfold yR at h
 simp only[Bool.and_eq_true,Bool.not_eq_true'] at h
 obtain⟨⟨h1,h2⟩,h3⟩:=h
 split at h3
 ·rename_i fs hu
  split at h3
  ·rename_i f0 f1 f2 hfs
   simp only[Bool.and_eq_true,beq_iff_eq,bne_iff_ne,ne_eq] at h3
   obtain⟨⟨⟨⟨⟨⟨a0,a1⟩,a2⟩,n0⟩,n1⟩,n2⟩,h3⟩:=h3
   split at h3
   ·rename_i k0 k1 k2 e0 e1 e2
    have:fs= #[f0,f1,f2]:=Array.ext' (by simpa using hfs)
    exact⟨h1,h2,f0,f1,f2,k0,k1,k2,this▸hu,a0,a1,a2,n0,n1,n2,e0,e1,e2⟩
   ·cases h3
  ·cases h3
 ·cases h3
def Bw (P:Program) (t:Nat) (x:TZ):Bool:=match P.info? t,P.underlying t with
 |some i,some d=>match i.zero with
  |some z=>i.size==x.size&&i.bytes==x.bytes&&BA d x.td&&zsB x.zs z.cells.toList&&x.zs.length==x.size&&(!x.flat||yR P t)
  |none=>false
 |_,_=>false
theorem CT {d:TypeDesc} {td:TD} (h:BA d td=true):dZ d td:=by
 unfold BA at h
 split at h <;> first|(cases h;done)|(simp only[dZ];exact beq_iff_eq.1 h)|(simp only[dZ];done)
theorem Au {P:Program} {t:Nat} {x:TZ} (h:Bw P t x=true):TOk P t x.info∧ua P t x.info:=by
 unfold Bw at h
 split at h
 ·rename_i i d hi hd
  split at h
  ·rename_i z hz
   simp only[Bool.and_eq_true,beq_iff_eq] at h
   obtain⟨⟨⟨⟨⟨h1,h2⟩,h3⟩,h4⟩,h5⟩,h6⟩:=h
   refine⟨⟨i,d,z,hi,h1,h2,hd,CT h3,hz,?_,?_⟩,fun hf=>?_⟩
   ·rw[CN h4];simp[TZ.info]
   ·simpa [TZ.info] using h5
   ·have hf':x.flat=true:=hf
    rw[hf'] at h6
    exact Dj (by simpa using h6)
  ·cases h
 ·cases h

theorem Tr.get_ok {α:Type} {d:α} {p:Nat→α→Bool} {Q:Nat→α→Prop} (hp:∀k v,p k v=true→Q k v) (hd:∀t,Q t d):∀{T:Tr α},T.all p=true→∀t,Q t (T.get d t)
 | .leaf,_,t=>hd t
 | .node l k v r,h,t=>by
  simp only[Tr.all] at h
  split at h
  ·rename_i hl
   split at h
   ·rename_i hk
    simp only[Tr.get]
    split
    ·rename_i he
     rw[Nat.eq_of_beq_eq_true he]
     exact hp k v hk
    ·split
     ·exact Tr.get_ok hp hd hl t
     ·exact Tr.get_ok hp hd h t
   ·cases h
  ·cases h

def TZ.none:TZ:=⟨.other,0,0,[],false⟩
theorem Fg {P:Program} {T:Tr TZ} {sig:Nat→List Mode} {gap inl ro:List Nat} (h:T.all (Bw P)=true):EOk P ⟨fun t=>(T.get TZ.none t).info,sig,gap,inl,ro⟩:=by
 have none_ok:∀t,((TZ.none.info.size≠0∨gZ TZ.none.info.td=false)→TOk P t TZ.none.info)∧ua P t TZ.none.info:=by
  refine fun t=>⟨fun h=>?_,fun h=>?_⟩
  ·rcases h with h|h
   ·exact absurd rfl h
   ·cases h
  ·cases h
 have:=fun t=>Tr.get_ok (p:=Bw P) (Q:=fun t x=>((x.info.size≠0∨gZ x.info.td=false)→TOk P t x.info)∧ua P t x.info) (d:=TZ.none) (fun k v hk=>⟨fun _=>(Au hk).1,(Au hk).2⟩) none_ok h t
 exact⟨fun t ht=>(this t).1 ht,fun t=>(this t).2⟩

theorem EP {n:Int} (h: -9223372036854775808≤n∧n<9223372036854775808):IntKind.i64.wrap n=n:=by
 rw[IntKind.wrap_i64];omega

theorem wh {fn:Func} {c:Code} (h:fn.body.isNone=false) (hc:fn.body.getD .skip=c):fn.body=some c:=by
 cases hb:fn.body with
 |none=>rw[hb] at h;cases h
 |some x=>rw[hb] at hc;exact congrArg some hc
end Go.Vm
/- Results that lie in cells; loops with one way out; arguments that are lent. -/
namespace Go.Vm
section
variable {P:Program} {E:TE} {ρ:Env} {σ:St} {K:List W→Prop} {a:Act} {w:World} {imm:Set} {Λ:Lam} {F:Key→Set}

/-- the results of a body: slots, or cells -/
def mN (E:TE):List (Nat×Option Nat)→(List A→Pg)→Pg
 |[],f=>f []
 |(t,none)::ts,f=>.gs t fun a=>mN E ts fun as=>f (a::as)
 |(t,some u)::ts,f=>.gs t fun p=>match p with
  | .mptr κ g i off=>.gn κ fun h=>match h with
   | .box g' cells=>if g=g'∧i=0 then(oo (cut off (E.info u).size cells) fun cs=>if cs.all plain then(oo (fk (E.info u).td cs) fun v=>mN E ts fun as=>f (v::as)) else .fail) else .fail
   |_=>.fail
  |_=>.fail
def resVar:Nat×Option Nat→ResultVar
 |(t,none)=>.tmp t
 |(t,some u)=>.cell t u
def oD (P:Program) (w:World) (tmps:Array Value) (x:Nat×Option Nat):Value:=match(gW tmps (resVar x)).run P w with
 | .ok v _=>v
 |_=>undef
theorem lI (hE:EOk P E) (h:aH ρ σ a w imm Λ F):∀(ts:List (Nat×Option Nat)) (f:List A→Pg),(∀x∈ts,x.1<1000000)→(mN E ts f).holds σ K→
  ∃vs,(f vs).holds σ K∧ah w imm (some Λ) vs (ts.map (oD P w a.tmps)) Set.no∧∀x∈ts,(gW a.tmps (resVar x)).run P w= .ok (oD P w a.tmps x) w
 |[],f,_,hh=>⟨[],hh,by simp only[List.map_nil,ah],by simp⟩
 |(t,none)::ts,f,hl,hh=>by
  obtain⟨vs,h1,h2,h3⟩:=lI hE h ts _ (fun x hx=>hl x (List.mem_cons_of_mem _ hx)) hh
  have ht:t<1000000:=hl _ List.mem_cons_self
  have hr:(gW a.tmps (resVar (t,none))).run P w= .ok (a.tmps.getD t undef) w:=by simp[gW,resVar]
  have hg:oD P w a.tmps (t,none)=a.tmps.getD t undef:=by unfold oD;rw[hr]
  have hs:=h.slots t
  unfold slotv at hs
  rw[if_pos ht] at hs
  refine⟨_::vs,h1,?_,?_⟩
  ·simp only[List.map_cons,ah]
   rw[hg]
   exact⟨Set.no,Set.no,hs,h2,Set.le_refl _,Set.le_refl _,Set.no_dis _⟩
  ·intro x hx
   rcases List.mem_cons.1 hx with rfl|hx
   ·rw[hg];exact hr
   ·exact h3 x hx
 |(t,some u)::ts,f,hl,hh=>by
  have ht:t<1000000:=hl _ List.mem_cons_self
  have hs:=h.slots t
  simp only[mN,Pg.holds] at hh
  unfold slotv at hs
  rw[if_pos ht] at hs
  cases hx:lkS σ.slots t <;> rw[hx] at hh hs <;> simp only[Pg.holds] at hh
  rename_i κ g i off
  have hN:=h.nodes κ
  simp only[CR] at hs
  cases hn:lkN σ.heap κ.1 κ.2 <;> rw[hn] at hh hN <;> simp only[Pg.holds] at hh
  rename_i g' cells
  split at hh
  ·rename_i hg
   obtain⟨rfl,rfl⟩:=hg
   obtain⟨h1,h2,h3,b,base,size,S',h4,h5,h6,h7,h8,h9,h10⟩:=hN
   obtain⟨b',base',size',e1,e2⟩:=ed.at hs h1 (by rw[h4];simp)
   rw[h4] at e1
   simp only[Loc.at_.injEq] at e1
   obtain⟨rfl,rfl,rfl⟩:=e1
   obtain⟨cs,hcut,hh⟩:=bS hh
   split at hh
   ·rename_i hp
    obtain⟨v,hm,hh⟩:=bS (x:=fk _ _) hh
    obtain⟨y,hrun,hv⟩:=mS (P:=P) hE (aj.cut _ _ _ _ _ _ hcut h10) (oK _ _ _ _ hcut) hm
    obtain⟨vs,q1,q2,q3⟩:=lI hE h ts _ (fun x hx=>hl x (List.mem_cons_of_mem _ hx)) hh
    have hr:(gW a.tmps (resVar (t,some u))).run P w= .ok y w:=by
     have hrun':(loadVar u ⟨b,base+off,none⟩).run P w= .ok y w:=by
      simpa [Instr.loadAt,Instr.sureAddr] using hrun
     simp only[gW,resVar,e2,asAddr,Nat.zero_mul,Nat.add_zero,Sem.run_bind,Sem.run_pure,Result.andThen_ok]
     exact hrun'
    have hg:oD P w a.tmps (t,some u)=y:=by unfold oD;rw[hr]
    refine⟨_::vs,q1,?_,?_⟩
    ·simp only[List.map_cons,ah]
     rw[hg]
     exact⟨Set.no,Set.no,og hm hp hv,q2,Set.le_refl _,Set.le_refl _,Set.no_dis _⟩
    ·intro x hx
     rcases List.mem_cons.1 hx with rfl|hx
     ·rw[hg];exact hr
     ·exact q3 x hx
   ·exact hh.elim
  ·exact hh.elim
theorem qp {fn:Func} {ts:List (Nat×Option Nat)} (h:fn.results.toList=ts.map resVar) (tmps:Array Value) (hr:∀x∈ts,(gW tmps (resVar x)).run P w= .ok (oD P w tmps x) w) :
  (results fn tmps).run P w= .ok (gH (ts.map (oD P w tmps)).toArray) w:=by
 let G:ResultVar→Value:=fun x=>match(gW tmps x).run P w with
  | .ok v _=>v
  |_=>undef
 have hm:(fn.results.mapM (gW tmps)).run P w= .ok (ts.map (oD P w tmps)).toArray w:=by
  rw[wN (P:=P) (w:=w) (f:=gW tmps) (g:=G) fn.results (fun x hx=>by
    rw[h] at hx
    obtain⟨t,ht,rfl⟩:=List.mem_map.1 hx
    have:=hr t ht
    show _=Result.ok (match(gW tmps (resVar t)).run P w with
     | .ok v _=>v
     |_=>undef) w
    rw[this]),h,List.map_map]
  rfl
 rw[BG,Sem.run_bind,hm]
 rfl

def tR (E:TE) (C:Ctx) (ts:List (Nat×Option Nat)) (rm:List Mode) (gs:List Nat) (pm:List Mode) (post:List A) (r:A):Pg:=
 mN E ts fun vs=>oH gs fun as=>j3 C 40 rm vs fun rds=>j3 C 40 pm as fun pds=>.need (tupOf rds=r∧pds=post) (.done [])
theorem yJ {R : St → Prop} (hE : EOk P E) (hm : P.follows .mixedOrders = true) {f : FuncId} {fn : Func} {c : Code} {ts : List (Nat × Option Nat)} {rm : List Mode} {gs : List Nat} {pm : List Mode} {ds post : List A} {r : A} (hf : P.funcs[f]? = some fn) (hname : (fn.name == "runtime.NumGoroutine") = false) (hb : fn.body = some c)
  (hres:fn.results.toList=ts.map resVar) (hcode:er fn.ntmps c=true) (hn:fn.ntmps≤1000000) (hds:ds.length≤fn.ntmps) (hgs:gs=(List.range ds.length).map (1000000+·)) (hts:∀t∈ts,t.1<1000000)
  (hR:∀ρ σ a w,R σ→Rel ρ σ a w→∃σ',(tR E (fw P) ts rm gs pm post r).holds σ' (fun _=>True)∧Rel ρ σ' a w)
  (h:nZ (fw P) 0 ds ⟨[],[]⟩ fun σ=>wpC E (fw P) c (fun e σ=>match e with
   | .exit _=>False
   |_=>R σ) σ):ak P f ds post r:=by
 refine⟨⟨fn,hf,hname,by simp[hb]⟩,fun w imm S vs hv hSi himm hS=>?_⟩
 refine calls_of_wp hf hb ?_
 have hvl:=hv.length
 let ρ:Env:=⟨w,S,imm,fn.ntmps,vs,WAS ds vs⟩
 let a:Act:={ tmps:=vs.toArray++Array.replicate (fn.ntmps-vs.toArray.size) undef,defers:=[] }
 have h0:aH ρ ⟨[],[]⟩ a w imm (fun _=>⟨0,.gone,0,0⟩) (fun _=>Set.no):=
  {size := by show(vs.toArray++Array.replicate (fn.ntmps-vs.toArray.size) undef).size=fn.ntmps
              simp;omega
   nlt:=hn
   slots:=fun t=>by simp only[lkS,CR]
   nodes:=fun κ=>⟨rfl,rfl⟩
   dis:=fun _ _ _=>Set.no_dis _
   fimm:=fun _=>Set.no_dis _
   flt:=fun _ _ z=>z.elim
   immlt:=fun b hb=>⟨himm b hb,.inl hb⟩
   imm0:=Set.le_refl _
   keep:=fun _ _ _=>rfl
   grow:=Nat.le_refl _
   os:=⟨rfl,rfl,rfl,aQ.refl w⟩
   defers:=rfl
   rs:=fun _=>trivial }
 have hslot:∀j,j<vs.length→vs[j]? =some (slotv ρ a j)∧vs[j]? =some (slotv ρ a (1000000+j)):=by
  intro j hj
  have hj2:j<1000000:=by omega
  constructor
  ·unfold slotv
   rw[if_pos hj2]
   show _=some ((vs.toArray++Array.replicate (fn.ntmps-vs.toArray.size) undef).getD j undef)
   rw[Array.getD_eq_getD_getElem?,Array.getElem?_append_left (by simpa using hj)]
   simp[hj]
  ·unfold slotv
   rw[if_neg (by omega)]
   show _=some (vs.getD (1000000+j-1000000) undef)
   rw[show 1000000+j-1000000=j by omega]
   simp[hj]
 obtain⟨σ,hw,hr⟩:=sm (P:=P) ds 0 vs _ _ _ S h0 (KB.of_was ds vs fun b o n hw=>.inr ⟨hw,fun _ _=>rfl⟩) hv ⟨fun _ _ _ z=>z,hSi,fun b hb=>⟨hS b hb,.inl hb⟩⟩ (fun j hj=>by simpa using hslot j hj) h
 refine wp_mono (fO hE hm c _ σ hw ρ a w hcode hr) ?_
 intro e a' w' hq
 have fin:(∃σ',(tR E (fw P) ts rm gs pm post r).holds σ' (fun _=>True)∧Rel ρ σ' a' w')→bodyPost P fn (fun
   | .returned v,w'=>∃imm' T1 T2,Set.le imm imm'∧ah w' imm' none post vs T1∧CR w' imm' none r v T2∧Set.dis T1 T2∧Set.dis T1 imm'∧Set.dis T2 imm'∧
     (∀b,T1 b∨T2 b→b<w'.heap.size∧(S b∨w.heap.size≤b))∧(∀b,imm' b→b<w'.heap.size∧(imm b∨S b∨w.heap.size≤b))∧
     (∀b,b<w.heap.size→¬S b→w'.heap[b]? =w.heap[b]?)∧w.heap.size≤w'.heap.size∧w'.os=w.os∧w'.output=w.output∧w'.tape=w.tape∧aQ w w'∧KB (NS w w') post vs∧KB (rH w w' ds vs) [r] [v]
   | .panicked _,_=>False
   | .outgrown,_=>False) .ret a' w':=by
  rintro⟨σ',hh,imm0,Λ',F',hX⟩
  obtain⟨rvs,hh1,hrv,hruns⟩:=lI hE hX ts _ hts hh
  obtain⟨as,hh2,has⟩:=qd hX hh1
  have hP0:eu (ρ.kept w') σ' Λ' (fun b=>∃κ,F' κ b) σ' w' imm0 F':=⟨fun _=>rfl,fun κ=>.inr (hX.nodes κ),hX.dis,hX.fimm,fun κ b hb=>⟨κ,hb⟩,hX.rs⟩
  obtain⟨ws1,rds,imm1,F1,S1,q1,q2,q3,q4,q5,q6,q7,q8,q9⟩:=jt rvs rm _ _ σ' imm0 F' _ hP0 hrv hh2
  obtain⟨ws2,pds,imm2,F2,S2,p1,p2,p3,p4,p5,p6,p7,p8,p9⟩:=jt as pm _ _ _ imm1 F1 _ q2 (ah.stable q3 (fun _ _=>rfl) _ _ _ _ _ _ (bE?.refl _) (Set.le_refl _) (fun _ _=>rfl) has) q1
  obtain⟨⟨rfl,rfl⟩,_⟩:=p1
  have hgv:gs.map (slotv ρ a')=vs:=by
   rw[hgs]
   apply List.ext_getElem?
   intro j
   simp only[List.map_map,List.getElem?_map]
   rcases Nat.lt_or_ge j vs.length with hj|hj
   ·rw[List.getElem?_range (by omega)]
    simp only[Option.map_some,Function.comp]
    unfold slotv
    rw[if_neg (by omega)]
    show some (vs.getD (1000000+j-1000000) undef)=_
    rw[show 1000000+j-1000000=j by omega]
    simp[hj]
   ·rw[List.getElem?_eq_none (by simp;omega),List.getElem?_eq_none hj];rfl
  rw[hgv] at p4
  have k1:=bv.kb _ _ _ p9 has
  rw[hgv] at k1
  replace k1:=KB.mono (p':=NS w w') (fun b o n hk=>hk.imp id fun h=>h.2) _ _ k1
  have k2:=(bv.kb _ _ _ q9 hrv).tupOf q4.length
  refine⟨hX.defers,_,qp hres a'.tmps hruns,imm2,S2,S1,Set.le_trans hX.imm0 (Set.le_trans q3 p3),p4,?_,fun b hb hb2=>?_,p5.imm,fun b hb hb2=>?_,fun b hb=>?_,fun b hb=>?_,hX.keep,hX.grow,hX.os.1,hX.os.2.1,hX.os.2.2.1,hX.os.2.2.2,k1,k2⟩
  ·exact CR.stable p3 (fun _ _=>rfl) none none _ _ _ _ trivial (Set.le_refl _) (fun _ _=>rfl) (Az q4)
  ·obtain⟨κ,hk⟩:=p8 b hb
   exact q5.dis κ b hb2 hk
  ·rcases p6 b hb2 with h'|⟨κ,h'⟩
   ·exact q5.imm b hb h'
   ·exact q5.dis κ b hb h'
  ·have:∃κ,F' κ b:=by
    rcases hb with hb|hb
    ·obtain⟨κ,hk⟩:=p8 b hb;exact⟨κ,q7 κ b hk⟩
    ·exact q8 b hb
   obtain⟨κ,hk⟩:=this
   exact hX.flt κ b hk
  ·have:imm0 b∨∃κ,F' κ b:=by
    rcases p6 b hb with h'|⟨κ,h'⟩
    ·exact q6 b h'
    ·exact .inr ⟨κ,q7 κ b h'⟩
   rcases this with h'|⟨κ,hk⟩
   ·exact hX.immlt b h'
   ·exact⟨(hX.flt κ b hk).1,.inr (hX.flt κ b hk).2⟩
 cases e with
 |normal=>obtain⟨σ',h1,h2⟩:=hq;exact fin (hR _ _ _ _ h1 h2)
 |ret=>obtain⟨σ',h1,h2⟩:=hq;exact fin (hR _ _ _ _ h1 h2)
 |exit id=>obtain⟨_,h',_⟩:=hq;exact h'.elim
 |_=>exact hq.elim

def sR (fn : Func) (n : Nat) (ts : List (Nat × Option Nat)) : Bool := !(fn.name == "runtime.NumGoroutine") && !fn.body.isNone && er fn.ntmps (fn.body.getD .skip) && Nat.ble fn.ntmps 1000000 && Nat.ble n fn.ntmps && ts.all fun t => Nat.blt t.1 1000000
/-- a loop whose ways out are led to states that are said beforehand -/
theorem DI {P:Program} {E:TE} {C:Ctx} (hC:C=fw P) (hE:EOk P E) (hm:P.follows .mixedOrders=true) {c:Code} {Q:Ex→St→Prop} {σ:St} {ι ξ:Type} (I:ι→St) (Inv:ι→Prop) (μ:ι→Nat) (X:ξ→Ex) (T:ξ→St) (kU:ξ→Prop) (i0:ι) (hi:Inv i0) (h0:Cov σ (I i0))
  (rest:∀x,kU x→Q (X x) (T x))
  (round:∀i (N:St→Prop) (D:Ex→St→Prop),Inv i→(∀σ' j,Inv j→μ j<μ i→Cov σ' (I j)→N σ')→(∀σ' x,kU x→Cov σ' (T x)→D (X x) σ')→(∀e σ',Q e σ'→D e σ')→
   wpC E C c (fun e σ'=>match e with| .normal=>N σ'|e=>D e σ') (I i)) (hmk:m9 c=false):C.LW c Q σ:=by
 subst hC
 have key:vP P (.loop c) (fun e σ'=>Q e σ'∨∃x,kU x∧X x=e∧Cov σ' (T x)) σ:=
  CX hE hm (ι:={ i // Inv i }) (fun i=>I i.1) (fun i=>μ i.1) ⟨i0,hi⟩ h0 fun i=>
   round i.1 _ (fun e σ'=>Q e σ'∨∃x,kU x∧X x=e∧Cov σ' (T x)) i.2 (fun σ' j hj h2 h1=>⟨⟨j,hj⟩,h1,h2⟩) (fun σ' x hx hc=>.inr ⟨x,hx,rfl,hc⟩) (fun e σ' h=>.inl h)
 refine DX hmk ?_
 intro ρ a w hc hr
 have lift:∀e a w,DB ρ (fun e σ'=>Q e σ'∨∃x,kU x∧X x=e∧Cov σ' (T x)) e a w→DB ρ Q e a w:=by
  intro e a w h
  have st:∀e',(∃σ,(Q e' σ∨∃x,kU x∧X x=e'∧Cov σ (T x))∧Rel ρ σ a w)→∃σ,Q e' σ∧Rel ρ σ a w:=by
   rintro e' ⟨σ',hq|⟨x,hx,rfl,hcov⟩,hrel⟩
   ·exact⟨σ',hq,hrel⟩
   ·exact⟨T x,rest x hx,hcov ρ a w hrel⟩
  cases e with
  |normal=>exact st _ h
  |exit id=>exact st _ h
  |ret=>exact st _ h
  |_=>exact h
 exact wp_mono (key ρ a w hc hr) lift

end
/- hypotheses taken apart -/
theorem aG {α:Type} {c:Prop} [Decidable c] {x y r:α} (h:(if c then x else y)=r):(c∧x=r)∨(¬c∧y=r):=by
 by_cases hc:c
 ·rw[if_pos hc] at h;exact .inl ⟨hc,h⟩
 ·rw[if_neg hc] at h;exact .inr ⟨hc,h⟩
def req {α:Type} (c:Prop) [Decidable c] (x:Option α):Option α:=if c then x else none
theorem ac {α:Type} {c:Prop} [Decidable c] {x:Option α} {r:α} (h:req c x=some r):c∧x=some r:=by
 unfold req at h
 rcases aG h with⟨hc,h⟩|⟨_,h⟩
 ·exact⟨hc,h⟩
 ·cases h
theorem ae {α:Type} {c:Prop} [Decidable c] {x:Option α} (h:c):req c x=x:=if_pos h
theorem af {α β:Type} {x:Option α} {f:α→Option β} {r:β} (h:x.bind f=some r):∃y,x=some y∧f y=some r:=by
 cases x with
 |none=>cases h
 |some y=>exact⟨y,rfl,h⟩
end Go.Vm
/- Arguments that are lent; rows that are shut. -/
namespace Go.Vm
section
variable {P:Program} {E:TE} {Fn:FuncId→List A→List A→A→Prop} {LW:Code→(Ex→St→Prop)→St→Prop} {IN:InT} {ρ:Env} {σ:St} {K:List W→Prop} {a:Act} {w:World} {imm:Set} {Λ:Lam} {F:Key→Set}

mutual
/-- what it means does not lean on what stands still -/
def ownd:A→Bool
 | .lit _=>true
 | .emp=>true
 | .hole=>true
 | .inl _ rows=>eR rows
 | .obox cells=>gm cells
 | .agg cs=>gm cs
 | .tup cs=>gm cs
 |_=>false
def gm:List A→Bool
 |[]=>true
 |c::cs=>if ownd c then gm cs else false
def eR:Rows→Bool
 |[]=>true
 |r::rs=>if gm r then eR rs else false
end
mutual
theorem CR.ownd {imm':Set}:∀(x:A) (v:Value) (S:Set),Vm.ownd x=true→CR w imm none x v S→CR w imm' none x v S
 | .lit _,v,S,_,h=>by simp only[CR] at h⊢;exact h
 | .emp,v,S,_,h=>by simp only[CR] at h⊢;exact h
 | .hole,v,S,_,_=>by simp only[CR]
 | .inl k rows,v,S,ho,h=>by
  simp only[Vm.ownd] at ho
  simp only[CR] at h⊢
  obtain⟨a,cap,e,h⟩:=h
  refine⟨a,cap,e,h.imp id ?_⟩
  rintro⟨b,o,size,S',h0,h1,h2,h3,h4,h5,h6,h7,h8⟩
  exact⟨b,o,size,S',h0,h1,h2,h3,h4,h5,h6,h7,aw.ownd rows b o k S' ho h8⟩
 | .obox cells,v,S,ho,h=>by
  simp only[Vm.ownd] at ho
  simp only[CR] at h⊢
  obtain⟨b,o,size,S',h0,h1,h2,h3,h4,h5,h6⟩:=h
  exact⟨b,o,size,S',h0,h1,h2,h3,h4,h5,aj.ownd cells b o S' ho h6⟩
 | .agg cs,v,S,ho,h=>by
  simp only[Vm.ownd] at ho
  simp only[CR] at h⊢
  obtain⟨vs,e,h⟩:=h
  exact⟨vs,e,ah.ownd cs vs S ho h⟩
 | .tup cs,v,S,ho,h=>by
  simp only[Vm.ownd] at ho
  simp only[CR] at h⊢
  obtain⟨vs,e,h⟩:=h
  exact⟨vs,e,ah.ownd cs vs S ho h⟩
 | .tree _,v,S,ho,_=>by simp[Vm.ownd] at ho
 | .optr _ _ _,v,S,ho,_=>by simp[Vm.ownd] at ho
 | .ref ..,v,S,ho,_=>by simp[Vm.ownd] at ho
 | .mptr ..,v,S,ho,_=>by simp[Vm.ownd] at ho
 | .iptr ..,v,S,ho,_=>by simp[Vm.ownd] at ho
 | .clo ..,v,S,ho,_=>by simp[Vm.ownd] at ho
theorem aj.ownd {imm':Set}:∀(cs:List A) (b o:Nat) (S:Set),gm cs=true→aj w imm none cs b o S→aj w imm' none cs b o S
 |[],_,_,_,_,_=>by simp only[aj]
 |c::cs,b,o,S,ho,h=>by
  simp only[gm] at ho
  split at ho
  ·rename_i hc
   simp only[aj] at h⊢
   obtain⟨v,S1,S2,h1,h2,h3,h4,h5,h6⟩:=h
   exact⟨v,S1,S2,h1,CR.ownd c v S1 hc h2,aj.ownd cs b (o+1) S2 ho h3,h4,h5,h6⟩
  ·cases ho
theorem aw.ownd {imm':Set}:∀(rs:Rows) (b o k:Nat) (S:Set),eR rs=true→aw w imm none rs b o k S→aw w imm' none rs b o k S
 |[],_,_,_,_,_,_=>by simp only[aw]
 |r::rs,b,o,k,S,ho,h=>by
  simp only[eR] at ho
  split at ho
  ·rename_i hc
   simp only[aw] at h⊢
   obtain⟨S1,S2,h1,h2,h3,h4,h5,h6⟩:=h
   exact⟨S1,S2,h1,aj.ownd r b o S1 hc h2,aw.ownd rs b (o+k) k S2 ho h3,h4,h5,h6⟩
  ·cases ho
theorem ah.ownd {imm':Set}:∀(cs:List A) (vs:List Value) (S:Set),gm cs=true→ah w imm none cs vs S→ah w imm' none cs vs S
 |[],[],_,_,_=>by simp only[ah]
 |[],_::_,_,_,h=>by simp only[ah] at h
 |_::_,[],_,_,h=>by simp only[ah] at h
 |c::cs,v::vs,S,ho,h=>by
  simp only[gm] at ho
  split at ho
  ·rename_i hc
   simp only[ah] at h⊢
   obtain⟨S1,S2,h2,h3,h4,h5,h6⟩:=h
   exact⟨S1,S2,CR.ownd c v S1 hc h2,ah.ownd cs vs S2 ho h3,h4,h5,h6⟩
  ·cases ho
end
/-- some arguments are lent: the callee takes them for what stands still -/
inductive ot:List A→List A→List A→List A→Prop
 |nil:ot [] [] [] []
 |same {d p:A} {ds ps ds' ps':List A} (hp:Vm.ownd p=true) (h:ot ds ps ds' ps'):ot (d::ds) (p::ps) (d::ds') (p::ps')
 |lend {d d' p:A} {ds ps ds' ps':List A} (hd:d=fz d') (h:ot ds ps ds' ps'):ot (d::ds) (p::ps) (d'::ds') (d'::ps')

theorem WAS.fz:∀(cs:List A) (us:List Value) {b o n:Nat},WAS (bG cs) us b o n→WAS cs us b o n
 |[],us,b,o,n,h=>by cases us <;> simp only[bG,WAS] at h
 |c::cs,[],b,o,n,h=>by cases c <;> simp only[bG,Vm.fz,WAS] at h
 |c::cs,u::us,b,o,n,h=>by
  have ih:=WAS.fz cs us (b:=b) (o:=o) (n:=n)
  cases c <;> simp only[bG,Vm.fz,WAS] at h⊢ <;> try exact ih h
  ·exact .inr (ih h)
  ·exact h.imp (fun⟨vs,e,hw⟩=>⟨vs,e,WAS.fz _ vs hw⟩) ih
  ·exact h.imp (fun⟨vs,e,hw⟩=>⟨vs,e,WAS.fz _ vs hw⟩) ih
 termination_by cs=>SizeOf.sizeOf cs
theorem KB.fz {p:Nat→Nat→Nat→Prop}:∀(cs:List A) (us:List Value),KB p cs us→KB p (bG cs) us
 |[],us,_=>by cases us <;> simp only[bG,KB]
 |c::cs,[],_=>KB.nil
 |c::cs,u::us,h=>by
  have ih:=KB.fz cs us h.tail
  cases c <;> simp only[bG,Vm.fz,KB] at h⊢ <;> try exact ih
  ·exact⟨fun vs e=>KB.fz _ vs (h.1 vs e),ih⟩
  ·exact⟨fun vs e=>KB.fz _ vs (h.1 vs e),ih⟩
 termination_by cs=>SizeOf.sizeOf cs
theorem WAS.own {imm:Set} {b o n:Nat}:∀(ds:List A) (us:List Value) (S:Set),ah w imm none ds us S→WAS ds us b o n→S b
 |[],us,S,_,h=>by cases us <;> simp only[WAS] at h
 |c::ds,[],S,hv,h=>by simp only[ah] at hv
 |c::ds,u::us,S,hv,h=>by
  simp only[ah] at hv
  obtain⟨S1,S2,h1,h2,h3,h4,_⟩:=hv
  have ih:=fun(h:WAS ds us b o n)=>h4 b (WAS.own (o:=o) (n:=n) ds us S2 h2 h)
  cases c <;> simp only[WAS] at h <;> simp only[CR] at h1 <;> try exact ih h
  ·rcases h with⟨e,_⟩|h
   ·obtain⟨b',o',size,S',e',hb,_⟩:=h1
    rw[e] at e'
    simp only[Value.pointer.injEq,Option.some.injEq,Addr.mk.injEq,and_true] at e'
    rw[e'.1]
    exact h3 b' hb
   ·exact ih h
  ·rcases h with⟨vs,rfl,h⟩|h
   ·obtain⟨vs',e',hr⟩:=h1
    have e2:vs=vs':=by simpa using e'
    subst e2
    exact h3 b (WAS.own _ vs S1 hr h)
   ·exact ih h
  ·rcases h with⟨vs,rfl,h⟩|h
   ·obtain⟨vs',e',hr⟩:=h1
    have e2:vs=vs':=by simpa using e'
    subst e2
    exact h3 b (WAS.own _ vs S1 hr h)
   ·exact ih h
 termination_by ds=>SizeOf.sizeOf ds
theorem WAS.cons {c:A} {ds:List A} {u:Value} {us:List Value} {b o n:Nat}:WAS (c::ds) (u::us) b o n↔WAS [c] [u] b o n∨WAS ds us b o n:=by
 cases c <;> simp only[WAS,or_false,false_or]
theorem KB.cons {p:Nat→Nat→Nat→Prop} {c:A} {ds:List A} {u:Value} {us:List Value}:KB p (c::ds) (u::us)↔KB p [c] [u]∧KB p ds us:=by
 cases c <;> simp only[KB,and_true,true_and]
theorem ot.was {ds ps ds' ps':List A} (h:ot ds ps ds' ps'):∀(vs:List Value) {b o n:Nat},WAS ds vs b o n→WAS ds' vs b o n:=by
 induction h with
 |nil=>intro vs b o n h;exact h
 |same _ _ ih=>
  intro vs b o n h
  cases vs with
  |nil=>cases ‹A› <;> simp only[WAS] at h
  |cons v vs=>rw[WAS.cons] at h⊢;exact h.imp id (ih vs)
 | @lend d d' p ds ps ds' ps' hd _ ih=>
  intro vs b o n h
  cases vs with
  |nil=>cases d <;> simp only[WAS] at h
  |cons v vs=>
   rw[WAS.cons] at h⊢
   refine h.imp (fun h=>?_) (ih vs)
   subst hd
   exact WAS.fz [d'] [v] h
theorem ot.take {ds ps ds' ps':List A} (h:ot ds ps ds' ps'):∀(vs:List Value) (S:Set),ah w imm none ds' vs S→∃SL SK:Set,Set.le SL S∧Set.le SK S∧Set.dis SL SK∧ah w (fun b=>imm b∨SL b) none ds vs SK∧
  (∀(w':World) (imm1 imm' T:Set),(∀b,SL b→w'.heap[b]? =w.heap[b]?)→(∀b,imm b→w'.heap[b]? =w.heap[b]?)→Set.le imm imm'→Set.dis T SL→ah w' imm1 none ps vs T→ah w' imm' none ps' vs (fun b=>SL b∨T b))∧
  ∀(p:Nat→Nat→Nat→Prop),KB p ps vs→(∀b o n,SL b→WAS ds' vs b o n→p b o n)→KB p ps' vs:=by
 induction h with
 |nil=>
  intro vs S hv
  cases vs with
  |nil=>exact⟨Set.no,Set.no,Set.no_le _,Set.no_le _,Set.no_dis _,by simp only[ah],fun _ _ _ _ _ _ _ _ _=>by simp only[ah],fun _ h _=>h⟩
  |cons=>simp only[ah] at hv
 | @same d p ds ps ds' ps' hp _ ih=>
  intro vs S hv
  cases vs with
  |nil=>simp only[ah] at hv
  |cons v vs=>
   simp only[ah] at hv
   obtain⟨S1,S2,h1,h2,h3,h4,h5⟩:=hv
   obtain⟨SL,SK,g1,g2,g3,g4,g5,g6⟩:=ih vs S2 h2
   refine⟨SL,fun b=>S1 b∨SK b,Set.le_trans g1 h4,fun b hb=>hb.elim (h3 b) (fun z=>h4 b (g2 b z)),fun b hb hc=>hc.elim (fun z=>h5 b z (g1 b hb)) (g3 b hb),?_,?_,fun p hk hw=>KB.cons.2 ⟨(KB.cons.1 hk).1,g6 p (KB.cons.1 hk).2 fun b o n hb h=>hw b o n hb (WAS.cons.2 (.inr h))⟩⟩
   ·simp only[ah]
    exact⟨S1,SK,CR.stable (fun b hb=>.inl hb) (fun _ _=>rfl) none none _ _ _ _ trivial (Set.le_refl _) (fun _ _=>rfl) h1,g4,fun b hb=>.inl hb,fun b hb=>.inr hb,fun b hb hc=>h5 b hb (g2 b hc)⟩
   ·intro w' imm1 imm' T q1 q2 q3 q4 q5
    simp only[ah] at q5⊢
    obtain⟨T1,T2,t1,t2,t3,t4,t5⟩:=q5
    exact⟨T1,fun b=>SL b∨T2 b,CR.ownd p v T1 hp t1,g5 w' imm1 imm' T2 q1 q2 q3 (fun b hb=>q4 b (t4 b hb)) t2,fun b hb=>.inr (t3 b hb),fun b hb=>hb.imp id (t4 b),fun b hb hc=>hc.elim (fun z=>q4 b (t3 b hb) z) (t5 b hb)⟩
 | @lend d d' p ds ps ds' ps' hd _ ih=>
  intro vs S hv
  subst hd
  cases vs with
  |nil=>simp only[ah] at hv
  |cons v vs=>
   simp only[ah] at hv
   obtain⟨S1,S2,h1,h2,h3,h4,h5⟩:=hv
   obtain⟨SL,SK,g1,g2,g3,g4,g5,g6⟩:=ih vs S2 h2
   refine⟨fun b=>S1 b∨SL b,SK,fun b hb=>hb.elim (h3 b) (fun z=>h4 b (g1 b z)),Set.le_trans g2 h4,fun b hb hc=>hb.elim (fun z=>h5 b z (g2 b hc)) (fun z=>g3 b z hc),?_,?_,fun p hk hw=>KB.cons.2 ⟨KB.of_was _ _ fun b o n h=>hw b o n (.inl (WAS.own [d'] [v] S1 (ah.of_one h1) h)) (WAS.cons.2 (.inl h)),g6 p (KB.cons.1 hk).2 fun b o n hb h=>hw b o n (.inr hb) (WAS.cons.2 (.inr h))⟩⟩
   ·simp only[ah]
    exact⟨Set.no,SK,CR.freeze (fun b hb=>.inl hb) _ v S1 h1 (fun b hb=>.inr (.inl hb)),ah.stable (fun b hb=>hb.imp id .inr) (fun _ _=>rfl) none none _ _ _ _ trivial (Set.le_refl _) (fun _ _=>rfl) g4,Set.no_le _,Set.le_refl _,Set.no_dis _⟩
   ·intro w' imm1 imm' T q1 q2 q3 q4 q5
    simp only[ah] at q5⊢
    obtain⟨T1,T2,t1,t2,t3,t4,t5⟩:=q5
    exact⟨S1,fun b=>SL b∨T2 b,CR.stable q3 q2 none none _ _ _ _ trivial (Set.le_refl _) (fun b hb=>q1 b (.inl hb)) h1,g5 w' imm1 imm' T2 (fun b hb=>q1 b (.inr hb)) q2 q3 (fun b hb hc=>q4 b (t4 b hb) (.inr hc)) t2,
     fun b hb=>.inl (.inl hb),fun b hb=>hb.elim (fun z=>.inl (.inr z)) (fun z=>.inr (t4 b z)),fun b hb hc=>hc.elim (fun z=>h5 b hb (g1 b z)) (fun z=>q4 b (t4 b z) (.inl hb))⟩

theorem ak.lend {f:FuncId} {ds ps ds' ps':List A} {r:A} (h:ak P f ds ps r) (hr:Vm.ownd r=true) (hl:ot ds ps ds' ps'):ak P f ds' ps' r:=by
 refine⟨h.1,fun w imm S vs hv hSi himm hS=>?_⟩
 obtain⟨SL,SK,g1,g2,g3,g4,g5,g6⟩:=hl.take vs S hv
 refine Calls.mono' (h.2 w (fun b=>imm b∨SL b) SK vs g4 (fun b hb hc=>hc.elim (hSi b (g2 b hb)) (fun z=>g3 b z hb)) (fun b hb=>hb.elim (himm b) (fun z=>hS b (g1 b z))) (fun b hb=>hS b (g2 b hb))) ?_
 intro e w' hq
 cases e with
 |returned v=>
  obtain⟨imm',T1,T2,q1,q2,q3,q4,q5,q6,q7,q8,q9,q10,q11,q12,q13,q14,q15,q16⟩:=hq
  have hst:∀b o n,rH w w' ds vs b o n→rH w w' ds' vs b o n:=fun b o n h=>h.imp id fun h=>⟨hl.was vs h.1,h.2⟩
  have hL:∀b,SL b→imm' b:=fun b hb=>q1 b (.inr hb)
  have sameL:∀b,SL b→w'.heap[b]? =w.heap[b]? :=fun b hb=>q9 b (hS b (g1 b hb)) (g3 b hb)
  have sameI:∀b,imm b→w'.heap[b]? =w.heap[b]? :=fun b hb=>q9 b (himm b hb) (fun z=>hSi b (g2 b z) hb)
  refine⟨fun b=>imm' b∧¬SL b,fun b=>SL b∨T1 b,T2,fun b hb=>⟨q1 b (.inl hb),fun z=>hSi b (g1 b z) hb⟩,?_,CR.ownd r v T2 hr q3,fun b hb hc=>hb.elim (fun z=>q6 b hc (hL b z)) (fun z=>q4 b z hc),fun b hb hc=>hb.elim hc.2 (fun z=>q5 b z hc.1),fun b hb hc=>q6 b hb hc.1,?_,?_,?_,q10,q11,q12,q13,q14,g6 _ q15 (fun b o n hb hw=>.inr fun q _=>cell?_same (sameL b hb)),KB.mono hst _ _ q16⟩
  ·exact g5 w' imm' _ T1 sameL sameI (fun b hb=>⟨q1 b (.inl hb),fun z=>hSi b (g1 b z) hb⟩) (fun b hb hc=>q5 b hb (hL b hc)) q2
  ·intro b hb
   have:SL b∨(T1 b∨T2 b):=by
    rcases hb with(hb|hb)|hb
    ·exact .inl hb
    ·exact .inr (.inl hb)
    ·exact .inr (.inr hb)
   rcases this with hb|hb
   ·exact⟨Nat.lt_of_lt_of_le (hS b (g1 b hb)) q10,.inl (g1 b hb)⟩
   ·exact⟨(q7 b hb).1,(q7 b hb).2.imp (g2 b) id⟩
  ·intro b hb
   obtain⟨h1,h2⟩:=q8 b hb.1
   refine⟨h1,?_⟩
   rcases h2 with(h2|h2)|h2|h2
   ·exact .inl h2
   ·exact absurd h2 hb.2
   ·exact .inr (.inl (g2 b h2))
   ·exact .inr (.inr h2)
  ·intro b hb hno
   exact q9 b hb (fun z=>hno (g2 b z))
 |panicked _=>exact hq
 |outgrown=>exact hq

theorem A3 {x:Option Lam} {cs:List A} {b o:Nat} {S:Set} (h:aj w imm x cs b o S) (hp:cs.all plain=true):aj w imm x cs b o Set.no:=by
 induction cs generalizing o S with
 |nil=>simp only[aj]
 |cons c cs ih=>
  simp only[List.all_cons,Bool.and_eq_true] at hp
  simp only[aj] at h⊢
  obtain⟨v,S1,S2,h1,h2,h3,h4,h5,h6⟩:=h
  exact⟨v,Set.no,Set.no,h1,CR.plain hp.1 h2,ih h3 hp.2,Set.le_refl _,Set.le_refl _,Set.no_dis _⟩
theorem ge {C:Ctx}:∀{cs:List A} {tk:List Key} {f:List Key→List W→List A→Pg},(cT C tk cs f).holds σ K→cs.all plain=true
 |[],_,_,_=>rfl
 |c::cs,tk,f,h=>by
  cases c with
  |ref κ g i n=>
   simp only[cT] at h
   split at h
   ·exact h.elim
   ·simp only[Pg.holds] at h
    cases hn:lkN σ.heap κ.1 κ.2 <;> rw[hn] at h <;> simp only[Pg.holds] at h
    ·split at h
     ·simp only[List.all_cons,plain,Bool.true_and];exact ge (C:=C) h.2
     ·exact h.elim
    ·split at h
     ·simp only[List.all_cons,plain,Bool.true_and];exact ge (C:=C) h.2
     ·exact h.elim
  |lit u=>
   simp only[cT] at h
   simp only[List.all_cons,plain,Bool.true_and]
   unfold uc at h
   split at h
   ·obtain⟨o,h⟩:=h;exact ge (C:=C) h
   ·exact ge (C:=C) h
  |tree r=>simp only[cT] at h;simp only[List.all_cons,plain,Bool.true_and];exact ge (C:=C) h
  |emp=>simp only[cT] at h;simp only[List.all_cons,plain,Bool.true_and];exact ge (C:=C) h
  |inl|obox|optr|mptr|iptr|agg|tup|clo|hole=>simp only[cT] at h;exact h.elim

theorem uO (h:aH ρ σ a w imm Λ F) {κ:Key} (hh:(qv (az Fn LW IN) κ).holds σ K):∃ws,K ws∧Rel ρ (σ.upd ws) a w:=by
 unfold qv at hh
 obtain⟨nd,hnd,hN,hh⟩:=h.node hh
 cases nd <;> simp only[Pg.holds] at hh
 rename_i g k rows i row
 have hp:=ge (C:=az Fn LW IN) hh
 obtain⟨e1,e2,e3,b,base,size,S1,S2,e4,e5,e6,e7,e8,e9,e10,e11,e12,e13,e14,e15,e16⟩:=hN
 obtain⟨vs,hl,hcell,hv⟩:=(A3 e15 hp).vals
 obtain⟨ks,ws,cs',T,hk,hv',hkills,hks,hnd',hT⟩:=jh h row [κ] vs _ hv hh
 have hκ:κ∉ks:=fun hm=>hks κ hm (by simp)
 have hdT:∀y,T y→¬F κ y:=fun y hy hF=>by
  obtain⟨z,hz,hFz⟩:=hT y hy
  exact h.dis z κ (fun e=>hκ (e▸hz)) y hFz hF
 have hc':aj w imm none cs' b (base+i * k) T:=aj.of_vals hv' hcell
 have hlen:cs'.length=k:=by rw[←hv'.length,hl,e14]
 refine⟨_,hk,imm,cQ Λ ks,up (dK F ks) κ (fun y=>F κ y∨T y),?_⟩
 have old:∀x,x≠κ→up (dK F ks) κ (fun y=>F κ y∨T y) x=dK F ks x:=fun x hx=>aR _ _ hx
 refine h.ghost (fun u=>?_) (jX Λ ks) (fun x=>?_) (fun x y hxy z hz hw=>?_) (fun x z hz=>?_) (fun x=>?_)
 rotate_right
 ·rw[St.upd,(hkills _).2 x]
  by_cases e:x=κ
  ·subst e
   rw[if_neg hκ]
   show RSp _ _ (lkN ((x,_)::σ.heap) x.1 x.2)
   rw[aY,if_pos rfl]
   trivial
  ·by_cases hx:x∈ks
   ·rw[if_pos hx];trivial
   ·rw[if_neg hx,show cQ Λ ks x=Λ x by simp[cQ,hx]]
    show RSp _ _ (lkN ((κ,_)::σ.heap) x.1 x.2)
    rw[aY,if_neg e]
    exact h.rs x
 ·rw[St.upd,(hkills _).1 u];rfl
 ·rw[St.upd,(hkills _).2 x]
  by_cases e:x=κ
  ·subst e
   rw[if_neg hκ,aD,show cQ Λ ks x=Λ x by simp[cQ,hκ]]
   show NR w imm _ _ (lkN ((x,_)::σ.heap) x.1 x.2) _
   rw[aY,if_pos rfl]
   refine⟨e1,e2,by simpa [az] using e3,.inr ⟨b,base,size,fun y=>S2 y∨T y,e4,.inl e5,fun z=>z.elim e7 (fun z=>hdT b z e5),fun y hy=>hy.elim (fun z=>.inl (e9 y z)) .inr,e11,by simpa [az] using e12,?_⟩⟩
   exact aw.join rows base i _ T S2 e13 hlen hc' e16 (fun y hy=>.inr hy) (fun y hy=>.inl hy) (fun y hy hz=>hdT y hy (e9 y hz))
  ·rw[old x e]
   by_cases hx:x∈ks
   ·rw[if_pos hx]
    simp only[cQ,if_pos hx]
    exact⟨rfl,rfl⟩
   ·rw[if_neg hx,show cQ Λ ks x=Λ x by simp[cQ,hx],show dK F ks x=F x by simp[dK,hx]]
    show NR w imm _ _ (lkN ((κ,_)::σ.heap) x.1 x.2) _
    rw[aY,if_neg e]
    exact(h.nodes x).le (jX Λ ks)
 ·have one:∀u v,u=κ→v≠κ→(up (dK F ks) κ (fun y=>F κ y∨T y)) u z→(up (dK F ks) κ (fun y=>F κ y∨T y)) v z→False:=by
   rintro u v rfl hv hu hv'
   rw[aD] at hu
   rw[old v hv] at hv'
   rcases hu with hu|hu
   ·exact h.dis u v (Ne.symm hv) z hu (eH F ks v z hv')
   ·obtain⟨q,hq,hF⟩:=hT z hu
    unfold dK at hv'
    split at hv'
    ·exact hv'
    ·rename_i hvk
     exact h.dis q v (fun e=>hvk (e▸hq)) z hF hv'
  by_cases e:x=κ
  ·exact one x y e (fun e'=>hxy (e.trans e'.symm)) hz hw
  ·by_cases e':y=κ
   ·exact one y x e' e hw hz
   ·rw[old x e] at hz
    rw[old y e'] at hw
    exact h.dis x y hxy z (eH F ks x z hz) (eH F ks y z hw)
 ·by_cases e:x=κ
  ·subst e
   rw[aD] at hz
   rcases hz with hz|hz
   ·exact⟨x,hz⟩
   ·obtain⟨q,_,hF⟩:=hT z hz;exact⟨q,hF⟩
  ·rw[old x e] at hz;exact⟨x,eH F ks x z hz⟩

theorem dy {C:Ctx} (hC:C=fw P) {τ:St} (κ:Key) (hh:(qv C κ).holds σ fun ws=>Cov (σ.upd ws) τ):Cov σ τ:=by
 subst hC
 rintro ρ a w ⟨imm,Λ,F,h⟩
 obtain⟨ws,hk,hr⟩:=uO h hh
 exact hk ρ a w hr
end
end Go.Vm
/- What the printed texts lean on. -/
namespace Go.Vm
def pe (a b:ByteArray):Bool:=a.toList==b.toList
theorem D8 {P:Program} {E:TE} {C:Ctx} (hC:C=fw P) (hE:EOk P E) (hm:P.follows .mixedOrders=true) {c:Code} {Q:Ex→St→Prop} {σ:St} {ι ξ:Type} (I:ι→St) (Inv:ι→Prop) (μ:ι→Nat) (X:ξ→Ex) (T:ξ→St) (kU:ξ→Prop) (i0:ι) (hi:Inv i0) (h0:∀t,t=i0→Cov σ (I t))
  (rest:∀x,kU x→Q (X x) (T x))
  (round:∀i (N:St→Prop) (D:Ex→St→Prop),Inv i→(∀σ' j,Inv j→μ j<μ i→(∀t,t=j→Cov σ' (I t))→N σ')→(∀σ' x,kU x→(∀t,t=x→Cov σ' (T t))→D (X x) σ')→(∀e σ',Q e σ'→D e σ')→
   wpC E C c (fun e σ'=>match e with| .normal=>N σ'|e=>D e σ') (I i)) (hmk:m9 c=false):C.LW c Q σ:=
 DI hC hE hm I Inv μ X T kU i0 hi (h0 i0 rfl) rest (fun i N D hI hN hD hQ=>round i N D hI (fun σ' j hj hlt hc=>hN σ' j hj hlt (hc j rfl)) (fun σ' x hx hc=>hD σ' x hx (hc x rfl)) hQ) hmk
attribute [simp] fz bG aI
@[simp] theorem E4 {α β:Type} (l:List α) (f:α→β):(l.map f).take l.length=l.map f:=List.take_of_length_le (by simp)
/-- a result may be let go of: nobody changes it any more -/
theorem ak.frz {P:Program} {f:FuncId} {ds ps:List A} {r r':A} (h:ak P f ds ps r) (hr:r'=fz r):ak P f ds ps r':=by
 subst hr
 refine⟨h.1,fun w imm S vs hv hSi himm hS=>?_⟩
 refine Calls.mono' (h.2 w imm S vs hv hSi himm hS) ?_
 intro e w' hq
 cases e with
 |returned v=>
  obtain⟨imm',T1,T2,q1,q2,q3,q4,q5,q6,q7,q8,q9,q10,q11,q12,q13,q14,q15,q16⟩:=hq
  refine⟨fun b=>imm' b∨T2 b,T1,Set.no,fun b hb=>.inl (q1 b hb),?_,CR.freeze (fun b hb=>.inl hb) _ _ _ q3 (fun b hb=>.inr hb),fun b _ z=>z.elim,fun b hb hc=>hc.elim (q5 b hb) (q4 b hb),Set.no_dis _,?_,?_,q9,q10,q11,q12,q13,q14,q15,KB.fz [r] [v] q16⟩
  ·exact ah.stable (fun b hb=>.inl hb) (fun _ _=>rfl) none none _ _ _ _ trivial (Set.le_refl _) (fun _ _=>rfl) q2
  ·intro b hb;exact q7 b (hb.imp id (fun z=>z.elim))
  ·intro b hb
   rcases hb with hb|hb
   ·exact q8 b hb
   ·exact⟨(q7 b (.inr hb)).1,.inr (q7 b (.inr hb)).2⟩
 |panicked _=>exact hq
 |outgrown=>exact hq
mutual
def frzA:A→A
 | .inl k rows=>.inl k (aI rows)
 | .agg cs=>.agg (frzL cs)
 | .tup cs=>.tup (frzL cs)
 | .lit v=>.lit v
 | .emp=>.emp
 | .tree rows=>.tree rows
 | .obox cs=>.obox cs
 | .optr k rows i=>.optr k rows i
 | .ref κ g i n=>.ref κ g i n
 | .mptr κ g i o=>.mptr κ g i o
 | .iptr r o=>.iptr r o
 | .clo f c=>.clo f c
 | .hole=>.hole
def frzL:List A→List A
 |[]=>[]
 |c::cs=>frzA c::frzL cs
end
attribute [simp] frzA frzL
mutual
theorem CR.frzA {w:World} {imm:Set}:∀(a:A) (v:Value) (S:Set),CR w imm none a v S→∃S1,Set.le S1 S∧∀imm':Set,Set.le imm imm'→(∀b,S b→¬S1 b→imm' b)→CR w imm' none (Vm.frzA a) v S1
 | .inl k rows,v,S,h=>by
  simp only[CR] at h
  obtain⟨a,cap,e,h⟩:=h
  rcases h with⟨rfl,rfl,rfl⟩|⟨b,o,size,S',rfl,h1,h2,h3,h4,h5,h6,h7,h8⟩
  ·exact⟨Set.no,Set.no_le _,fun imm' hi hs=>by simp only[Vm.frzA,CR,aI];exact⟨none,0,e,.inl (by simp)⟩⟩
  ·refine⟨Set.one b,fun x hx=>by rw[show x=b from hx];exact h1,fun imm' hi hs=>?_⟩
   simp only[Vm.frzA,CR]
   refine⟨_,cap,by rw[fE];exact e,.inr ⟨b,o,size,Set.no,rfl,rfl,fun z=>z,Set.no_le _,h4,h5,h6,by rw[fE];exact h7,?_⟩⟩
   exact aw.freeze hi rows b o k S' h8 (fun x hx=>hs x (h3 x hx) (fun e=>h2 (by rw[←show x=b from e];exact hx)))
 | .agg cs,v,S,h=>by
  simp only[CR] at h
  obtain⟨vs,e,hr⟩:=h
  obtain⟨S1,h1,h2⟩:=ah.frzL cs vs S hr
  exact⟨S1,h1,fun imm' hi hs=>by simp only[Vm.frzA,CR];exact⟨vs,e,h2 imm' hi hs⟩⟩
 | .tup cs,v,S,h=>by
  simp only[CR] at h
  obtain⟨vs,e,hr⟩:=h
  obtain⟨S1,h1,h2⟩:=ah.frzL cs vs S hr
  exact⟨S1,h1,fun imm' hi hs=>by simp only[Vm.frzA,CR];exact⟨vs,e,h2 imm' hi hs⟩⟩
 | .lit v,u,S,h=>⟨S,Set.le_refl _,fun imm' hi hs=>CR.stable hi (fun _ _=>rfl) none none _ _ _ _ trivial (Set.le_refl _) (fun _ _=>rfl) h⟩
 | .emp,u,S,h=>⟨S,Set.le_refl _,fun imm' hi hs=>CR.stable hi (fun _ _=>rfl) none none _ _ _ _ trivial (Set.le_refl _) (fun _ _=>rfl) h⟩
 | .tree _,u,S,h=>⟨S,Set.le_refl _,fun imm' hi hs=>CR.stable hi (fun _ _=>rfl) none none _ _ _ _ trivial (Set.le_refl _) (fun _ _=>rfl) h⟩
 | .obox _,u,S,h=>⟨S,Set.le_refl _,fun imm' hi hs=>CR.stable hi (fun _ _=>rfl) none none _ _ _ _ trivial (Set.le_refl _) (fun _ _=>rfl) h⟩
 | .optr _ _ _,u,S,h=>⟨S,Set.le_refl _,fun imm' hi hs=>CR.stable hi (fun _ _=>rfl) none none _ _ _ _ trivial (Set.le_refl _) (fun _ _=>rfl) h⟩
 | .ref ..,u,S,h=>by simp only[CR] at h
 | .mptr ..,u,S,h=>by simp only[CR] at h
 | .iptr _ _,u,S,h=>⟨S,Set.le_refl _,fun imm' hi hs=>CR.stable hi (fun _ _=>rfl) none none _ _ _ _ trivial (Set.le_refl _) (fun _ _=>rfl) h⟩
 | .clo _ _,u,S,h=>⟨S,Set.le_refl _,fun imm' hi hs=>CR.stable hi (fun _ _=>rfl) none none _ _ _ _ trivial (Set.le_refl _) (fun _ _=>rfl) h⟩
 | .hole,u,S,h=>⟨S,Set.le_refl _,fun imm' hi hs=>by simp only[Vm.frzA,CR]⟩
theorem ah.frzL {w:World} {imm:Set}:∀(cs:List A) (vs:List Value) (S:Set),ah w imm none cs vs S→∃S1,Set.le S1 S∧∀imm':Set,Set.le imm imm'→(∀b,S b→¬S1 b→imm' b)→ah w imm' none (Vm.frzL cs) vs S1
 |[],[],S,_=>⟨S,Set.le_refl _,fun _ _ _=>by simp only[Vm.frzL,ah]⟩
 |[],_::_,S,h=>by simp only[ah] at h
 |_::_,[],S,h=>by simp only[ah] at h
 |c::cs,v::vs,S,h=>by
  simp only[ah] at h
  obtain⟨A1,A2,h1,h2,l1,l2,dj⟩:=h
  obtain⟨B1,k1,m1⟩:=CR.frzA c v A1 h1
  obtain⟨B2,k2,m2⟩:=ah.frzL cs vs A2 h2
  refine⟨fun b=>B1 b∨B2 b,fun b hb=>hb.elim (fun z=>l1 b (k1 b z)) (fun z=>l2 b (k2 b z)),fun imm' hi hs=>?_⟩
  simp only[Vm.frzL,ah]
  exact⟨B1,B2,m1 imm' hi (fun b hb hn=>hs b (l1 b hb) (fun z=>z.elim hn (fun z=>dj b hb (k2 b z)))),m2 imm' hi (fun b hb hn=>hs b (l2 b hb) (fun z=>z.elim (fun z=>dj b (k1 b z) hb) hn)),fun b z=>.inl z,fun b z=>.inr z,fun b z z'=>dj b (k1 b z) (k2 b z')⟩
end
theorem KB.frzL {p:Nat→Nat→Nat→Prop}:∀(cs:List A) (us:List Value),KB p cs us→KB p (Vm.frzL cs) us
 |[],us,_=>by cases us <;> simp only[Vm.frzL,KB]
 |c::cs,[],_=>KB.nil
 |c::cs,u::us,h=>by
  have ih:=KB.frzL cs us h.tail
  cases c <;> simp only[Vm.frzL,Vm.frzA,KB] at h⊢ <;> try exact ih
  ·exact⟨h.1,ih⟩
  ·exact⟨fun vs e=>KB.frzL _ vs (h.1 vs e),ih⟩
  ·exact⟨fun vs e=>KB.frzL _ vs (h.1 vs e),ih⟩
 termination_by cs=>SizeOf.sizeOf cs
/-- what a result's rows hold may be let go of -/
theorem ak.frzIn {P:Program} {f:FuncId} {ds ps:List A} {r r':A} (h:ak P f ds ps r) (hr:r'=frzA r):ak P f ds ps r':=by
 subst hr
 refine⟨h.1,fun w imm S vs hv hSi himm hS=>?_⟩
 refine Calls.mono' (h.2 w imm S vs hv hSi himm hS) ?_
 intro e w' hq
 cases e with
 |returned v=>
  obtain⟨imm',T1,T2,q1,q2,q3,q4,q5,q6,q7,q8,q9,q10,q11,q12,q13,q14,q15,q16⟩:=hq
  obtain⟨S1,l1,m1⟩:=CR.frzA _ _ _ q3
  refine⟨fun b=>imm' b∨(T2 b∧¬S1 b),T1,S1,fun b hb=>.inl (q1 b hb),?_,m1 _ (fun b hb=>.inl hb) (fun b hb hn=>.inr ⟨hb,hn⟩),fun b hb hc=>q4 b hb (l1 b hc),fun b hb hc=>hc.elim (q5 b hb) (fun z=>q4 b hb z.1),fun b hb hc=>hc.elim (q6 b (l1 b hb)) (fun z=>z.2 hb),?_,?_,q9,q10,q11,q12,q13,q14,q15,KB.frzL [r] [v] q16⟩
  ·exact ah.stable (fun b hb=>.inl hb) (fun _ _=>rfl) none none _ _ _ _ trivial (Set.le_refl _) (fun _ _=>rfl) q2
  ·intro b hb;exact q7 b (hb.imp id (l1 b))
  ·intro b hb
   rcases hb with hb|hb
   ·exact q8 b hb
   ·exact⟨(q7 b (.inr hb.1)).1,.inr (q7 b (.inr hb.1)).2⟩
 |panicked _=>exact hq
 |outgrown=>exact hq
theorem vS (n:Nat):(NatCast.natCast n:Int)=(n:Int):=rfl
end Go.Vm
/- Arguments that are read, as data. -/
namespace Go.Vm

def lV (E:TE):Nat→List (Nat×Nat)→Nat→Bool
 |o,[],n=>Nat.beq o n
 |o,(p,u)::fs,n=>if Nat.beq p o then lV E (o+(E.info u).size) fs n else false
/-- types of numbers, bools, strings, slices and structs of each other -/
def Ef (E:TE) (S:List Nat):Bool:=S.all fun t=>match(E.info t).td with
 | .int _=>true
 | .bool=>true
 | .str=>true
 | .slice e=>mq e S&& !(Nat.beq (E.info e).size 0)
 | .struct fs=>fs.all (fun f=>mq f.2 S)&&lV E 0 fs (E.info t).size
 |_=>false

def ShF (R:Nat→List A→Prop):List (Nat×Nat)→List A→Prop
 |[],cs=>cs=[]
 |(_,u)::fs,cs=>∃p q,cs=p++q∧R u p∧ShF R fs q
def Sh (E:TE):Nat→Nat→List A→Prop
 |0,_,_=>False
 |n+1,t,cs=>match(E.info t).td with
  | .int k=>∃m,cs=[.lit (.int k m)]∧(Lit.int k m).wf=true
  | .bool=>∃b,cs=[.lit (.bool b)]
  | .str=>∃s:ByteArray,cs=[.lit (.string s)]∧s.size≤reachBytes
  | .slice e=>∃rows:Rows,cs=[.tree rows]∧rows.length * (E.info e).bytes≤reachBytes∧∀r∈rows,Sh E n e r
  | .struct fs=>ShF (Sh E n) fs cs
  |_=>False

section
variable {H:Type} {enc:TypeId×Value→H} {P:Program} {E:TE} {w:World}

theorem sF {α:Type} {Q:Nat→α→Prop}:∀(n:Nat),(∀i,i<n→∃x,Q i x)→∃xs:List α,xs.length=n∧∀i x,xs[i]? =some x→Q i x
 |0,_=>⟨[],rfl,by simp⟩
 |n+1,h=>by
  obtain⟨xs,hl,hx⟩:=sF n (fun i hi=>h i (by omega))
  obtain⟨x,hq⟩:=h n (by omega)
  refine⟨xs++[x],by simp[hl],fun i y hy=>?_⟩
  rw[List.getElem?_append] at hy
  split at hy
  ·exact hx i y hy
  ·rename_i hi
   have:i=n:=by
    rcases Nat.lt_or_ge (i-xs.length) 1 with h1|h1
    ·omega
    ·rw[List.getElem?_eq_none (by simpa using h1)] at hy;cases hy
   subst this
   rw[hl] at hy
   simp at hy
   subst hy;exact hq

theorem AG {b k:Nat} {imm:Set}:∀(rows:Rows) (o:Nat),(∀i r,rows[i]? =some r→r.length=k∧aj w imm none r b (o+i * k) Set.no)→aw w imm none rows b o k Set.no
 |[],_,_=>by simp only[aw]
 |r::rs,o,h=>by
  simp only[aw]
  obtain⟨h1,h2⟩:=h 0 r rfl
  refine⟨Set.no,Set.no,h1,by simpa using h2,AG rs (o+k) (fun i q hq=>?_),Set.le_refl _,Set.le_refl _,Set.no_dis _⟩
  obtain⟨g1,g2⟩:=h (i+1) q (by simpa using hq)
  refine⟨g1,?_⟩
  rw[show o+k+i * k=o+(i+1) * k by rw[Nat.add_mul];omega]
  exact g2

theorem oW {e:TypeId}:∀{ds:List (DataW H)} {i:Nat} {d:DataW H},ds[i]? =some d→∀n∈d.weights P e,n∈DataW.weightsAll P e ds
 |d0::ds,0,d,h,n,hn=>by simp at h;subst h;simp[DataW.weightsAll,hn]
 |d0::ds,i+1,d,h,n,hn=>by simp at h;simp[DataW.weightsAll,oW h n hn]
 |[],_,_,h,_,_=>by simp at h

theorem ah.app {imm:Set}:∀{cs ds:List A} {vs us:List Value},ah w imm none cs vs Set.no→ah w imm none ds us Set.no→ah w imm none (cs++ds) (vs++us) Set.no:=
 fun h1 h2=>ah.append h1 h2

theorem vr (hE:EOk P E) {S:List Nat} (hS:Ef E S=true):∀(fuel t:Nat) (cs:List Value) (x:DataW H×List MemPlace),t∈S→DataW.trod enc P w 0 (fun _=>true) true fuel t cs=some x→
  (∀n∈x.1.weights P t,n≤reachBytes)→∃as,Sh E fuel t as∧ah w (fun b=>b<w.heap.size) none as cs Set.no
 |0,t,cs,x,_,h,_=>by simp[DataW.trod] at h
 |fuel+1,t,cs,x,ht,h,hw=>by
  have hs:=List.all_eq_true.1 hS t ht
  have hone:∀v u,CR w (fun b=>b<w.heap.size) none v u Set.no→ah w (fun b=>b<w.heap.size) none [v] [u] Set.no:=fun v u h=>ah.of_one h
  cases htd:(E.info t).td with
  |int k=>
   obtain⟨i,d,z,_,_,_,hd,htd',_⟩:=hE t (.inr (by rw[htd];rfl))
   rw[htd] at htd'
   cases d <;> simp only[dZ] at htd'
   rw[htd'] at hd
   obtain⟨n,rfl,rfl,hwf⟩:=DataW.trod_int hd h
   exact⟨[.lit (.int k n)],by simp only[Sh,htd];exact⟨n,rfl,hwf⟩,hone _ _ (by simp only[CR])⟩
  |bool=>
   obtain⟨i,d,z,_,_,_,hd,htd',_⟩:=hE t (.inr (by rw[htd];rfl))
   rw[htd] at htd'
   cases d <;> simp only[dZ] at htd'
   obtain⟨n,rfl,rfl⟩:=DataW.trod_bool hd h
   exact⟨[.lit (.bool n)],by simp only[Sh,htd];exact⟨n,rfl⟩,hone _ _ (by simp only[CR])⟩
  |str=>
   obtain⟨i,d,z,_,_,_,hd,htd',_⟩:=hE t (.inr (by rw[htd];rfl))
   rw[htd] at htd'
   cases d <;> simp only[dZ] at htd'
   obtain⟨s,rfl,rfl,_⟩:=DataW.trod_string hd h
   have hsz:s.size≤reachBytes:=by
    have h0:=hw s.data.toList.length (List.mem_singleton.2 rfl)
    rw[Array.length_toList] at h0
    exact h0
   exact⟨[.lit (.string s)],by simp only[Sh,htd];exact⟨s,rfl,hsz⟩,hone _ _ (by simp only[CR])⟩
  |slice e=>
   rw[htd] at hs
   simp only[Bool.and_eq_true,pZ,Bool.not_eq_true'] at hs
   obtain⟨he,hz⟩:=hs
   obtain⟨i,d,z,_,_,_,hd,htd',_⟩:=hE t (.inr (by rw[htd];rfl))
   rw[htd] at htd'
   cases d <;> simp only[dZ] at htd'
   rename_i e'
   subst htd'
   have hz':(E.info e').size≠0:=by intro h;rw[h] at hz;simp at hz
   obtain⟨ie,de,ze,hie,hsz,hby,_⟩:=hE e' (.inl hz')
   have hco:P.cellsOf e'=(E.info e').size:=by simp[Program.cellsOf,hie,hsz]
   have hbo:P.bytesOf e'=(E.info e').bytes:=by simp[Program.bytesOf,hie,hby]
   rcases DataW.trod_slice hd h with⟨rfl,rfl⟩|⟨a,len,cap,elems,rest,n,hfuel,rfl,rfl,_,hlc,_,hel,hget,_,_⟩
   ·exact⟨[.tree []],by simp only[Sh,htd];exact⟨[],rfl,by simp[reachBytes],by simp⟩,hone _ _ (by simp only[CR];exact⟨none,0,by simp,Nat.le_refl _,.inl trivial⟩)⟩
   ·obtain rfl:fuel=n:=by omega
    have hwt:∀m,m∈(elems.map (·.1)).length * 1::[]→True:=fun _ _=>trivial
    have hwhole:(elems.length+rest.length) * P.bytesOf e'≤reachBytes:=hw _ (by simp[DataW.weights,hd])
    have hq:∀i,i<len→∃row:List A,Sh E fuel e' row∧∃vs:List Value,w.cells? 0 (a.add (i * P.cellsOf e')) (P.cellsOf e')=some vs∧ah w (fun b=>b<w.heap.size) none row vs Set.no:=by
     intro i hi
     have hg:=hget i hi
     have hlt:i<elems.length:=by omega
     rw[List.getElem?_eq_getElem hlt] at hg
     obtain⟨vs,hvs,hg⟩:=Option.bind_eq_some_iff.1 hg
     obtain⟨row,h1,h2⟩:=vr hE hS fuel e' vs _ he hg (fun m hm=>hw m (by
      simp only[DataW.weights,hd,List.mem_cons,List.mem_append]
      right;left
      exact oW (i:=i) (d:=elems[i].1) (by simp[hlt]) m hm))
     exact⟨row,h1,vs,hvs,h2⟩
    obtain⟨rows,hrl,hrows⟩:=sF len hq
    refine⟨[.tree rows],?_,hone _ _ ?_⟩
    ·simp only[Sh,htd]
     refine⟨rows,rfl,?_,fun r hr=>?_⟩
     ·rw[hrl,←hel,←hbo]
      exact Nat.le_trans (Nat.mul_le_mul_right _ (by omega)) hwhole
     ·obtain⟨i,hi⟩:=List.mem_iff_getElem?.1 hr
      exact(hrows i r hi).1
    ·simp only[CR]
     refine⟨some a,cap,by rw[hrl],by omega,?_⟩
     rcases Nat.eq_zero_or_pos len with h0|hpos
     ·left;exact List.eq_nil_of_length_eq_zero (by omega)
     ·right
      obtain⟨r0,hr0⟩:∃r,rows[0]? =some r:=⟨rows[0],by simp⟩
      obtain⟨_,vs0,hvs0,_⟩:=hrows 0 r0 hr0
      obtain⟨_,hl0,hc0⟩:=World.cells?_some hvs0
      have hu:∃u,w.cell? a=some u:=by
       have h00:=hc0 0 (by rw[hco];exact Nat.pos_of_ne_zero hz')
       rw[show(a.add (0 * P.cellsOf e')).add 0=a by simp[Addr.add],List.getElem?_eq_getElem (by rw[hl0,hco];exact Nat.pos_of_ne_zero hz')] at h00
       exact⟨_,h00⟩
      obtain⟨u,hu⟩:=hu
      have hspot:a.spot=none∧a.block<w.heap.size:=by
       unfold World.cell? at hu
       split at hu
       ·rename_i c q r hc
        split at hu
        ·cases hu
        ·rename_i hsp
         refine⟨by simpa using hsp,?_⟩
         rcases Nat.lt_or_ge a.block w.heap.size with h1|h1
         ·exact h1
         ·rw[Array.getElem?_eq_none h1] at hc;cases hc
       ·cases hu
      obtain⟨bb,oo,sp⟩:=a
      simp only at hspot
      obtain⟨rfl,hlt⟩:=hspot
      refine⟨bb,oo,(E.info e').size,rfl,hlt,AG rows oo fun i r hi=>?_⟩
      obtain⟨_,vs,hvs,hv⟩:=hrows i r hi
      obtain⟨_,hl,hc⟩:=World.cells?_some hvs
      refine⟨by rw[←hv.length,hl,hco],aj.of_vals hv fun j hj=>?_⟩
      rw[←hc j (by omega),hco,Addr.add_mk,Addr.add_mk]
  |struct fs=>
   rw[htd] at hs
   simp only[Bool.and_eq_true] at hs
   obtain⟨hfs,hoff⟩:=hs
   obtain⟨i,d,z,hi,hsz,_,hd,htd',_⟩:=hE t (.inr (by rw[htd];rfl))
   rw[htd] at htd'
   cases d <;> simp only[dZ] at htd'
   rename_i fields
   obtain⟨xs,n,hfuel,rfl,hlen,hxl,hget⟩:=DataW.trod_struct hd h
   obtain rfl:fuel=n:=by omega
   have hct:P.cellsOf t=(E.info t).size:=by simp[Program.cellsOf,hi,hsz]
   have key:∀(l:List (Nat×Nat)) (j o:Nat),(∀q,l[q]? =fs[j+q]?)→lV E o l (E.info t).size=true→o≤cs.length→
     ∃as,ShF (Sh E fuel) l as∧ah w (fun b=>b<w.heap.size) none as (cs.drop o) Set.no:=by
    intro l
    induction l with
    |nil=>
     intro j o _ ho _
     simp only[lV] at ho
     have:o=(E.info t).size:=Nat.eq_of_beq_eq_true ho
     refine⟨[],rfl,?_⟩
     rw[this,←hct,←hlen,List.drop_length]
     simp only[ah]
    |cons f l ih=>
     obtain⟨p,u⟩:=f
     intro j o hq ho hle
     simp only[lV] at ho
     split at ho
     ·rename_i hp
      obtain rfl:=Nat.eq_of_beq_eq_true hp
      have hj:fs[j]? =some (p,u):=by have:=hq 0;simpa using this.symm
      have hu:u∈S:=by
       have:=List.all_eq_true.1 hfs (p,u) (List.mem_of_getElem? hj)
       simpa [pZ] using this
      have hfj:∃f:Field,fields[j]? =some f∧f.offset=p∧f.type=u:=by
       rw[←htd'] at hj
       simp only[List.getElem?_map,Array.getElem?_toList,Option.map_eq_some_iff] at hj
       obtain⟨f,hf,e⟩:=hj
       cases e
       exact⟨f,hf,rfl,rfl⟩
      obtain⟨f,hf,rfl,rfl⟩:=hfj
      have hg:=hget j f hf
      have hjl:j<xs.length:=by rw[hxl];rcases Nat.lt_or_ge j fields.size with h1|h1;exact h1;rw[Array.getElem?_eq_none h1] at hf;cases hf
      rw[List.getElem?_eq_getElem hjl] at hg
      obtain⟨as,h1,h2⟩:=vr hE hS fuel f.type _ _ hu hg (fun m hm=>hw m (by
       simp only[DataW.weights,hd]
       refine DataW.weights_mem_each (j:=j) (t:=f.type) (d:=xs[j].1) ?_ ?_ m hm
       ·simp[hf]
       ·simp[hjl]))
      -- how many cells it has
      have hsu:P.cellsOf f.type=(E.info f.type).size:=by
       have hs':=List.all_eq_true.1 hS f.type hu
       have hno:gZ (E.info f.type).td=false:=by cases hq:(E.info f.type).td <;> rw[hq] at hs' <;> first|rfl|cases hs'
       obtain⟨iu,_,_,hiu,hsu,_⟩:=hE f.type (.inr hno)
       simp[Program.cellsOf,hiu,hsu]
      have hle2:f.offset+(E.info f.type).size≤cs.length:=by
       have:∀(l:List (Nat×Nat)) (o:Nat),lV E o l (E.info t).size=true→o≤(E.info t).size:=by
        intro l
        induction l with
        |nil=>intro o h;simp only[lV] at h;exact Nat.le_of_eq (Nat.eq_of_beq_eq_true h)
        |cons g l ih=>
         intro o h
         simp only[lV] at h
         split at h
         ·have:=ih _ h;omega
         ·cases h
       have:=this l _ ho
       rw[hlen,hct];exact this
      obtain⟨bs,g1,g2⟩:=ih (j+1) (f.offset+(E.info f.type).size) (fun q=>by have:=hq (q+1);simpa [Nat.add_assoc,Nat.add_comm 1 q] using this) ho hle2
      refine⟨as++bs,⟨as,bs,rfl,h1,g1⟩,?_⟩
      have:cs.drop f.offset=(cs.drop f.offset).take (P.cellsOf f.type)++cs.drop (f.offset+(E.info f.type).size):=by
       rw[hsu,←List.drop_drop]
       exact(List.take_append_drop _ _).symm
      rw[this]
      exact ah.app h2 g2
     ·cases ho
   obtain⟨as,h1,h2⟩:=key fs 0 0 (fun q=>by simp) hoff (Nat.zero_le _)
   exact⟨as,by simp only[Sh,htd];exact h1,by simpa using h2⟩
  |ptr e=>rw[htd] at hs;cases hs
  |other=>rw[htd] at hs;cases hs

theorem yZ {α:Type} {c:α→List A} {W:α→Prop}:∀{rows:Rows},(∀r∈rows,∃x,r=c x∧W x)→∃l:List α,rows=l.map c∧∀x∈l,W x
 |[],_=>⟨[],rfl,by simp⟩
 |r::rs,h=>by
  obtain⟨x,e,w⟩:=h r (by simp)
  obtain⟨l,e2,w2⟩:=yZ (rows:=rs) (fun q hq=>h q (List.mem_cons_of_mem _ hq))
  refine⟨x::l,by rw[e,e2];rfl,fun y hy=>?_⟩
  rcases List.mem_cons.1 hy with hy|hy
  ·rw[hy];exact w
  ·exact w2 y hy
end
end Go.Vm
/- Short forms for printed texts. -/
namespace Go.Vm
abbrev iA (n:Int):A:=.lit (.int .i64 n)
abbrev bA (b:Bool):A:=.lit (.bool b)
abbrev sA (s:ByteArray):A:=.lit (.string s)
abbrev tA (r:Rows):A:=.tree r
abbrev oA (k:Nat) (r:Rows):A:=.inl k r
abbrev hA:A:=.hole
/-- runs of one number, once each -/
def uniq:List Int→List Int
 |[]=>[]
 |[x]=>[x]
 |x::y::l=>if x=y then uniq (y::l) else x::uniq (y::l)
@[simp] theorem mnot (b:Bool):(cond.match_1 (fun _=>Bool) b (fun _=>false) (fun _=>true))= !b:=by cases b <;> rfl
@[simp] theorem fzm (l:Rows):(aI.match_1 (fun _=>Rows) l (fun _=>[]) (fun r rs=>bG r::aI rs))=aI l:=by cases l <;> rfl
@[simp] theorem BD:∀(l:Rows) (i:Nat) (r:List A),aI (l.set i r)=(aI l).set i (bG r)
 |[],_,_=>by simp[aI]
 |_::_,0,_=>by simp[aI]
 |_::l,i+1,r=>by simp[aI,BD l i r]
@[simp] theorem Bv:∀(l l':Rows),aI (l++l')=aI l++aI l'
 |[],_=>by simp[aI]
 |_::l,l'=>by simp[aI,Bv l l']
@[simp] theorem Fv {α β:Type} (l:List α) (f:α→β) (i:Nat) (r:β):((l.map f).set i r).take l.length=(l.map f).set i r:=List.take_of_length_le (by simp)
/-- a test, both ways -/
theorem bcs {t:Bool} {X Y:Prop} (h1:t=true→X) (h2:t=false→Y):(match(generalizing:=false) t with|true=>X|false=>Y):=by
 cases t
 ·exact h2 rfl
 ·exact h1 rfl
theorem ifT {α:Type} {c:Prop} [Decidable c] {x y:Option α} {r:α} {t:Bool} (hh:(if c then x else y)=some r) (f:t=true)
  (k:t=true→c:=by intro f;cases hC;cases hQ;first|exact of_decide_eq_true f|exact eq_of_beq f|exact f|(simp at f⊢;first|done|with_reducible omega|exact f)):x=some r:=by
 rw[if_pos (k f)] at hh;exact hh
theorem ifF {α:Type} {c:Prop} [Decidable c] {x y:Option α} {r:α} {t:Bool} (hh:(if c then x else y)=some r) (f:t=false)
  (k:t=false→¬c:=by intro f;cases hC;cases hQ;first|exact of_decide_eq_false f|exact ne_of_beq_false f|exact Bool.eq_false_iff.1 f|(simp at f⊢;first|done|with_reducible omega|exact f)):y=some r:=by
 rw[if_neg (k f)] at hh;exact hh
/-- a jU from below -/
theorem Nb {t:Bool} {c:Prop} (h:c) (k:c→t=false:=by intro h;cases hC;cases hQ;exact decide_eq_false (Int.not_lt.2 (by first|with_reducible exact h|with_reducible omega|(simp;done)|(simp;with_reducible omega)|(simp at h⊢;with_reducible omega)|(simp at h⊢;exact h)|(simp at h⊢;simp only[vS] at *;with_reducible omega)))):t=false:=k h
/-- a jU from above -/
theorem Mb {t:Bool} {c:Prop} (h:c) (k:c→t=true:=by intro h;cases hC;cases hQ;exact decide_eq_true (by first|with_reducible exact h|with_reducible omega|(simp;done)|(simp;with_reducible omega)|(simp at h⊢;with_reducible omega)|(simp at h⊢;exact h)|(simp at h⊢;simp only[vS] at *;with_reducible omega))):t=true:=k h
/-- what is wanted, from what is known -/
theorem Wb {c g:Prop} (h:c) (k:c→g:=by intro h;cases hC;cases hQ;first|with_reducible exact h|(simp;done)|(simp at h⊢;with_reducible exact h)|(simp;with_reducible omega)|(simp at h⊢;with_reducible omega)|(simp at h⊢;exact h)|(simp at h⊢;simp only[vS] at *;with_reducible omega)):g:=k h
/-- a row that was read -/
theorem Gb {α:Type} {l:List α} {i:Nat} {e:α} {g:Prop} (h:l[i]? =some e) (k:l[i]? =some e→g:=by intro h;cases hC;cases hQ;first|(simp[h];done)|(simp at h⊢;simp[h];done)|(have q:=congrArg (Option.map fun x=>[A.lit (.int .i64 x)]) h;rw[←List.getElem?_map] at q;simpa [List.map] using q)|(have q:=congrArg (Option.map fun x:ByteArray=>[A.lit (.string x)]) h;rw[←List.getElem?_map] at q;simpa [List.map] using q)|(have q:=congrArg (Option.map c_Int) h;rw[←List.getElem?_map] at q;simpa using q)|(have q:=congrArg (Option.map c_GOcc) h;rw[←List.getElem?_map] at q;simpa using q)|(have q:=congrArg (Option.map c_GOccO) h;rw[←List.getElem?_map] at q;simpa using q)|(have q:=congrArg (Option.map c_GEv) h;rw[←List.getElem?_map] at q;simpa using q)|(have q:=congrArg (Option.map c_GEx) h;rw[←List.getElem?_map] at q;simpa using q)|(have q:=congrArg (Option.map kD) h;rw[←List.getElem?_map] at q;simpa using q)|(have q:=congrArg (Option.map c_Bool) h;rw[←List.getElem?_map] at q;simpa using q)):g:=k h
theorem Gb2 {α:Type} {l:List α} {i:Nat} {e:α} {c g:Prop} (h:l[i]? =some e) (h2:c) (k:l[i]? =some e→c→g:=by intro h h2;cases hC;cases hQ;first|(simp[h2];done)|(simp[h,h2];done)):g:=k h h2
theorem Zb {g:Prop} (k:g:=by cases hC;cases hQ;(repeat' apply And.intro) <;> first|trivial|(with_reducible rfl)|(simp;done)|rfl|(simp <;> first|rfl|with_reducible omega|grind)|(simp[*];done)):g:=k
theorem Ob {g:Prop} (k:g:=by cases hC;cases hQ;first|(simp;done)|(simp;first|with_reducible omega|(simp only[vS] at *;with_reducible omega))):g:=k
/-- of all rows -/
theorem Ab {g:Prop} (k:g:=by cases hC;cases hQ;first|(simp[plain,gy];done)|(simp[plain,gy];intro r hr;have qm:=List.mem_of_mem_drop (List.mem_of_mem_take hr);simp at qm;obtain⟨a,_,rfl⟩:=qm;simp[plain,gy])):g:=k
theorem Eb {g:Prop} (k:g:=by subst hr hp;cases hh;cases hC;cases hQ;(repeat' apply And.intro) <;> first|trivial|(with_reducible rfl)|(simp;done)|rfl|(simp <;> first|rfl|with_reducible omega|grind)|(simp[*];done)):g:=k
theorem J0 {g:Prop} (k:g:=by cases hC;cases hQ;(repeat' apply And.intro) <;> first|trivial|(with_reducible rfl)|(simp;done)|rfl|(simp <;> first|rfl|with_reducible omega|grind)|(simp[*];done)):g:=k
theorem J1 {g:Prop} (k:g:=by subst e;cases hC;cases hQ;(repeat' apply And.intro) <;> first|trivial|(with_reducible rfl)|(simp;done)|rfl|(simp <;> first|rfl|with_reducible omega|grind)|(simp[*];done)):g:=k
theorem J2 {g:Prop} (k:g:=by simp only[Prod.mk.injEq] at e;obtain⟨rfl,rfl⟩:=e;cases hC;cases hQ;(repeat' apply And.intro) <;> first|trivial|(with_reducible rfl)|(simp;done)|rfl|(simp <;> first|rfl|with_reducible omega|grind)|(simp[*];done)):g:=k
theorem J3 {g:Prop} (k:g:=by simp only[Prod.mk.injEq] at e;obtain⟨rfl,rfl,rfl⟩:=e;cases hC;cases hQ;(repeat' apply And.intro) <;> first|trivial|(with_reducible rfl)|(simp;done)|rfl|(simp <;> first|rfl|with_reducible omega|grind)|(simp[*];done)):g:=k
theorem J4 {g:Prop} (k:g:=by simp only[Prod.mk.injEq] at e;obtain⟨rfl,rfl,rfl,rfl⟩:=e;cases hC;cases hQ;(repeat' apply And.intro) <;> first|trivial|(with_reducible rfl)|(simp;done)|rfl|(simp <;> first|rfl|with_reducible omega|grind)|(simp[*];done)):g:=k
theorem J5 {g:Prop} (k:g:=by simp only[Prod.mk.injEq] at e;obtain⟨rfl,rfl,rfl,rfl,rfl⟩:=e;cases hC;cases hQ;(repeat' apply And.intro) <;> first|trivial|(with_reducible rfl)|(simp;done)|rfl|(simp <;> first|rfl|with_reducible omega|grind)|(simp[*];done)):g:=k
theorem J6 {g:Prop} (k:g:=by simp only[Prod.mk.injEq] at e;obtain⟨rfl,rfl,rfl,rfl,rfl,rfl⟩:=e;cases hC;cases hQ;(repeat' apply And.intro) <;> first|trivial|(with_reducible rfl)|(simp;done)|rfl|(simp <;> first|rfl|with_reducible omega|grind)|(simp[*];done)):g:=k
theorem J7 {g:Prop} (k:g:=by simp only[Prod.mk.injEq] at e;obtain⟨rfl,rfl,rfl,rfl,rfl,rfl,rfl⟩:=e;cases hC;cases hQ;(repeat' apply And.intro) <;> first|trivial|(with_reducible rfl)|(simp;done)|rfl|(simp <;> first|rfl|with_reducible omega|grind)|(simp[*];done)):g:=k
theorem J8 {g:Prop} (k:g:=by simp only[Prod.mk.injEq] at e;obtain⟨rfl,rfl,rfl,rfl,rfl,rfl,rfl,rfl⟩:=e;cases hC;cases hQ;(repeat' apply And.intro) <;> first|trivial|(with_reducible rfl)|(simp;done)|rfl|(simp <;> first|rfl|with_reducible omega|grind)|(simp[*];done)):g:=k
/-- an atom, from a test that is known -/
theorem Tb {c:Prop} {g:Prop} (h:c) (k:c→g:=by intro h;cases hC;cases hQ;first|exact decide_eq_true h|exact beq_iff_eq.2 h|exact h|(simp;done)|(simp;with_reducible omega)|(simp at h⊢;with_reducible omega)|(simp at h⊢;exact h)|(simp at h⊢;simp only[vS] at *;with_reducible omega)):g:=k h
theorem Fb {c:Prop} {g:Prop} (h:¬c) (k:¬c→g:=by intro h;cases hC;cases hQ;first|exact decide_eq_false h|exact beq_false_of_ne h|exact Bool.eq_false_iff.2 h|(simp;done)|(simp;with_reducible omega)|(simp at h⊢;with_reducible omega)|(simp at h⊢;exact h)|(simp at h⊢;simp only[vS] at *;with_reducible omega)):g:=k h
/-- a call -/
theorem ag {P:Program} {Fn:FuncId→List A→List A→A→Prop} (hF:∀f ds ds' post r,ak P f ds' post r→ds=ds'→Fn f ds post r) {K:List A→A→Prop} {f:FuncId} {ds ds' post:List A} {r:A} (h:ak P f ds' post r) (k:K post r)
  (e:ds=ds':=by cases hC;cases hQ;first|(simp;done)|(simp;rfl)|(simp;exact List.take_of_length_le (by simp))):∃post r,Fn f ds post r∧K post r:=⟨post,r,hF f ds ds' post r h e,k⟩
/-- a loop whose rounds are those of a plain function -/
theorem ay {P:Program} {E:TE} {C:Ctx} (hC:C=fw P) (hE:EOk P E) (hm:P.follows .mixedOrders=true) {c:Code} {Q:Ex→St→Prop} {σ:St} {ι ξ ρ:Type} (L:Nat→ι→Option ρ) (I:ι→St) (T:ξ→St) (G:ξ→ρ) (X:Ex) {n0:Nat} {i0:ι} {o:ρ}
  (hl:L n0 i0=some o) (hz:∀i,L 0 i=none) (h0:∀t,t=i0→Cov σ (I t)) (rest:∀x,o=G x→Q X (T x))
  (round:∀(n:Nat) (i:ι) (N:St→Prop) (D:Ex→St→Prop),L (n+1) i=some o→(∀j σ',L n j=some o→(∀t,t=j→Cov σ' (I t))→N σ')→(∀x σ',some (G x)=some o→(∀t,t=x→Cov σ' (T t))→D X σ')→(∀e σ',Q e σ'→D e σ')→
   wpC E C c (fun e σ'=>match e with| .normal=>N σ'|e=>D e σ') (I i)) (hmk:m9 c=false:=by rfl):C.LW c Q σ:=by
 refine D8 hC hE hm (fun s:Nat×ι=>I s.2) (fun s=>L s.1 s.2=some o) (fun s=>s.1) (fun _=>X) T (fun x=>o=G x) (n0,i0) hl (fun t e=>h0 t.2 (by rw[e])) rest ?_ hmk
 rintro⟨n,i⟩ N D hh hN hD hQ
 cases n with
 |zero=>exact absurd ((hz i).symm.trans hh) (by simp)
 |succ n=>
  exact round n i N D hh (fun j σ' h hc=>hN σ' (n,j) h (Nat.lt_succ_self _) fun t e=>by rw[e];exact hc j rfl) (fun x σ' h hc=>hD σ' x (by simpa using h.symm) hc) hQ

end Go.Vm
/- Calls that are followed into the function's code: its frame stands beside the caller's. -/
namespace Go.Vm
def tI:Nat→List A→List (Nat×A)
 |_,[]=>[]
 |i,a::as=>(i,a)::tI (i+1) as
def lT:List (Nat×A)→List (Nat×A)
 |[]=>[]
 |(t,a)::l=>(t+2000000,a)::lT l
/-- the callee's frame: what it was handed; the caller's slots lie gd -/
def oP (σ:St) (as:List A):St:=⟨tI 0 as++lT σ.slots,σ.heap⟩
def ii (d:Option Nat) (t:Nat):Nat:=match d with
 |some d'=>cond (Nat.beq t d') 1999999 (t+2000000)
 |none=>t+2000000
def mQ (d:Option Nat):List (Nat×A)→List (Nat×A)
 |[]=>[]
 |(t,a)::l=>(ii d t,a)::mQ d l
def wsS (f:Nat→A):List (Nat×A)→List W
 |[]=>[]
 |(t,_)::l=>.s t (f t)::wsS f l
def wsN (f:Nat→Nat→HN):List (Key×HN)→List W
 |[]=>[]
 |((i,j),_)::l=>.n (i,j) (f i j)::wsN f l
/-- the caller's state once more -/
def yE (σ τ:St):List W:=wsS (lkS τ.slots) σ.slots++(wsS (lkS τ.slots) τ.slots++(wsN (lkN τ.heap) σ.heap++wsN (lkN τ.heap) τ.heap))
theorem oM (f:Nat→A):∀(l:List (Nat×A)) (σ:St) (t:Nat),(lkS (σ.upd (wsS f l)).slots t=f t∨(lkS (σ.upd (wsS f l)).slots t=lkS σ.slots t∧∀x∈l,x.1≠t))∧(σ.upd (wsS f l)).heap=σ.heap
 |[],σ,t=>⟨.inr ⟨rfl,fun x hx=>by simp at hx⟩,rfl⟩
 |(u,a)::l,σ,t=>by
  obtain⟨h1,h2⟩:=oM f l (σ.upd1 (.s u (f u))) t
  refine⟨?_,h2⟩
  show(lkS ((σ.upd1 (.s u (f u))).upd (wsS f l)).slots t=f t∨_)
  rcases h1 with h1|⟨h1,h3⟩
  ·exact .inl h1
  ·have e:lkS (σ.upd1 (.s u (f u))).slots t=if t=u then f u else lkS σ.slots t:=rfl
   rw[e] at h1
   by_cases c:t=u
   ·subst c;rw[if_pos rfl] at h1;exact .inl h1
   ·rw[if_neg c] at h1
    refine .inr ⟨h1,fun x hx=>?_⟩
    rcases List.mem_cons.1 hx with rfl|hx
    ·exact fun e=>c e.symm
    ·exact h3 x hx
theorem oE (f:Nat→Nat→HN):∀(l:List (Key×HN)) (σ:St) (κ:Key),(lkN (σ.upd (wsN f l)).heap κ.1 κ.2=f κ.1 κ.2∨(lkN (σ.upd (wsN f l)).heap κ.1 κ.2=lkN σ.heap κ.1 κ.2∧∀x∈l,x.1≠κ))∧(σ.upd (wsN f l)).slots=σ.slots
 |[],σ,κ=>⟨.inr ⟨rfl,fun x hx=>by simp at hx⟩,rfl⟩
 |((i,j),n)::l,σ,κ=>by
  obtain⟨h1,h2⟩:=oE f l (σ.upd1 (.n (i,j) (f i j))) κ
  refine⟨?_,h2⟩
  show(lkN ((σ.upd1 (.n (i,j) (f i j))).upd (wsN f l)).heap κ.1 κ.2=f κ.1 κ.2∨_)
  rcases h1 with h1|⟨h1,h3⟩
  ·exact .inl h1
  ·have e:lkN (σ.upd1 (.n (i,j) (f i j))).heap κ.1 κ.2=if κ=(i,j) then f i j else lkN σ.heap κ.1 κ.2:=aY _ _ _ _
   rw[e] at h1
   by_cases c:κ=(i,j)
   ·subst c;rw[if_pos rfl] at h1;exact .inl h1
   ·rw[if_neg c] at h1
    refine .inr ⟨h1,fun x hx=>?_⟩
    rcases List.mem_cons.1 hx with rfl|hx
    ·exact fun e=>c e.symm
    ·exact h3 x hx
theorem sX:∀{l:List (Nat×A)} {t:Nat},(∀x∈l,x.1≠t)→lkS l t= .hole
 |[],_,_=>rfl
 |(u,a)::l,t,h=>by
  rw[df,if_neg (fun e=>h (u,a) (by simp) e.symm)]
  exact sX fun x hx=>h x (by simp[hx])
theorem sP:∀{l:List (Key×HN)} {κ:Key},(∀x∈l,x.1≠κ)→lkN l κ.1 κ.2= .dead 0
 |[],_,_=>rfl
 |(u,n)::l,κ,h=>by
  rw[aY,if_neg (fun e=>h (u,n) (by simp) e.symm)]
  exact sP fun x hx=>h x (by simp[hx])
theorem Bb (σ τ:St) (t:Nat):lkS (σ.upd (yE σ τ)).slots t=lkS τ.slots t:=by
 unfold yE
 rw[bi,bi,bi,(oE _ _ _ (0,0)).2,(oE _ _ _ (0,0)).2]
 rcases (oM (lkS τ.slots) τ.slots (σ.upd (wsS (lkS τ.slots) σ.slots)) t).1 with h|⟨h,h2⟩
 ·exact h
 ·rw[h]
  rcases (oM (lkS τ.slots) σ.slots σ t).1 with g|⟨g,g2⟩
  ·exact g
  ·rw[g,sX g2,sX h2]
theorem CL (σ τ:St) (κ:Key):lkN (σ.upd (yE σ τ)).heap κ.1 κ.2=lkN τ.heap κ.1 κ.2:=by
 unfold yE
 rw[bi,bi,bi]
 rcases (oE (lkN τ.heap) τ.heap (((σ.upd (wsS (lkS τ.slots) σ.slots)).upd (wsS (lkS τ.slots) τ.slots)).upd (wsN (lkN τ.heap) σ.heap)) κ).1 with h|⟨h,h2⟩
 ·exact h
 ·rw[h]
  rcases (oE (lkN τ.heap) σ.heap ((σ.upd (wsS (lkS τ.slots) σ.slots)).upd (wsS (lkS τ.slots) τ.slots)) κ).1 with g|⟨g,g2⟩
  ·exact g
  ·rw[g,(oM _ _ _ 0).2,(oM _ _ _ 0).2,sP g2,sP h2]
theorem yr:∀(as:List A) (i t:Nat) (l:List (Nat×A)),lkS (tI i as++l) t=if i≤t then(match as[t-i]? with|some a=>a|none=>lkS l t) else lkS l t
 |[],i,t,l=>by simp[tI]
 |a::as,i,t,l=>by
  show lkS ((i,a)::(tI (i+1) as++l)) t=_
  rw[df,yr as (i+1) t l]
  by_cases c:t=i
  ·subst c;simp
  ·rw[if_neg c]
   by_cases c2:i≤t
   ·obtain⟨q,hq⟩:∃q,t-i=q+1:=⟨t-i-1,by omega⟩
    rw[if_pos (show i+1≤t by omega),if_pos c2,hq,show t-(i+1)=q by omega]
    rfl
   ·rw[if_neg (by omega),if_neg c2]
theorem nU:∀(l:List (Nat×A)) (t:Nat),lkS (lT l) (t+2000000)=lkS l t
 |[],_=>rfl
 |(u,a)::l,t=>by
  show lkS ((u+2000000,a)::lT l) (t+2000000)=_
  rw[df,df,nU l]
  by_cases c:t=u
  ·rw[if_pos c,if_pos (by omega)]
  ·rw[if_neg c,if_neg (by omega)]
theorem qc:∀(l:List (Nat×A)) (t:Nat),t<2000000→lkS (lT l) t= .hole
 |[],_,_=>rfl
 |(u,a)::l,t,h=>by
  show lkS ((u+2000000,a)::lT l) t=_
  rw[df,if_neg (by omega),qc l t h]
theorem Cy {d:Option Nat} {t u:Nat} (h:ii d t=ii d u):t=u:=by
 unfold ii at h
 cases d with
 |none=>dsimp only at h;omega
 |some d'=>
  dsimp only at h
  cases h1:Nat.beq t d' <;> cases h2:Nat.beq u d' <;> rw[h1,h2] at h <;> simp only[cond] at h
  ·omega
  ·omega
  ·omega
  ·rw[Nat.eq_of_beq_eq_true h1,Nat.eq_of_beq_eq_true h2]
theorem sO (d:Option Nat):∀(l:List (Nat×A)) (t:Nat),lkS (mQ d l) (ii d t)=lkS l t
 |[],_=>rfl
 |(u,a)::l,t=>by
  show lkS ((ii d u,a)::mQ d l) (ii d t)=_
  rw[df,df,sO d l]
  by_cases c:t=u
  ·rw[if_pos c,if_pos (by rw[c])]
  ·rw[if_neg c,if_neg (fun e=>c (Cy e))]
/-- what stands gd the callee's frame -/
def gd (a:Act) (ρ:Env) (us:List Value):List Value:=(us++List.replicate (1000000-us.length) undef)++((List.range 1000000).map (fun t=>a.tmps.getD t undef)++ρ.args)
theorem sj {a:Act} {ρ:Env} {us:List Value} (hu:us.length≤1000000) (t:Nat):(gd a ρ us).getD (t+1000000) undef=slotv ρ a t:=by
 have len:(us++List.replicate (1000000-us.length) undef).length=1000000:=by simp;omega
 unfold gd slotv
 rw[List.getD_eq_getElem?_getD,List.getElem?_append_right (by omega),len,show t+1000000-1000000=t by omega]
 by_cases c:t<1000000
 ·rw[if_pos c,List.getElem?_append_left (by simpa using c),List.getElem?_map,List.getElem?_range c]
  rfl
 ·rw[if_neg c,List.getElem?_append_right (by simp;omega),List.length_map,List.length_range,List.getD_eq_getElem?_getD]
theorem AV {a:Act} {ρ:Env} {us:List Value} (hu:us.length≤1000000):999999<(gd a ρ us).length:=by
 unfold gd
 simp only[List.length_append,List.length_replicate,List.length_map,List.length_range]
 omega
theorem ah.get {w:World} {imm:Set} {x:Option Lam}:∀{as:List A} {us:List Value} {t:Nat} {a:A} {u:Value},ah w imm x as us Set.no→as[t]? =some a→us[t]? =some u→CR w imm x a u Set.no
 |[],us,t,a,u,_,h,_=>by simp at h
 |c::as,[],t,a,u,hv,_,_=>by simp only[ah] at hv
 |c::as,v::us,t,a,u,hv,ha,hu=>by
  simp only[ah] at hv
  obtain⟨S1,S2,h1,h2,h3,h4,_⟩:=hv
  cases t with
  |zero=>
   simp only[List.getElem?_cons_zero,Option.some.injEq] at ha hu
   subst ha hu
   exact h1.mono h3
  |succ t=>exact ah.get (h2.mono h4) (by simpa using ha) (by simpa using hu)
/-- the caller goes on in a state that is said -/
def Ch (σ:St) (d:Option Nat) (K:List W→Prop) (τ:St) (r:A):Prop:=∃τ1:St,Cov ⟨(1999999,r)::τ.slots,τ.heap⟩ ⟨mQ d τ1.slots,τ1.heap⟩∧K (yE σ τ1)
theorem yv {P:Program} {E:TE} {C:Ctx} (hC:C=fw P) (hE:EOk P E) (hm:P.follows .mixedOrders=true) {f:FuncId} {fn:Func} {ts:List (Nat×Option Nat)} {d:Option Nat} {as:List A} {σ:St} {K:List W→Prop} (τ0:St) (Lv:St→A→Prop)
  (hL:∀τ r,Lv τ r→∃(τ1:St) (ws:List W),Cov ⟨(1999999,r)::τ.slots,τ.heap⟩ ⟨mQ d τ1.slots,τ1.heap⟩∧K ws∧(∀t,lkS (σ.upd ws).slots t=lkS τ1.slots t)∧∀κ:Key,lkN (σ.upd ws).heap κ.1 κ.2=lkN τ1.heap κ.1 κ.2) (hf:P.funcs[f]? =some fn)
  (hok:sR fn as.length ts=true) (hres:fn.results.toList=ts.map resVar) (c0:Cov (oP σ as) τ0)
  (h:wpC E C (fn.body.getD .skip) (fun e τ=>match e with
   | .exit _=>False
   |_=>(mN E ts fun vs=>.need (Lv τ (tupOf vs)) (.done [])).holds τ fun _=>True) τ0):INg P d f as σ K:=by
 subst hC
 unfold sR at hok
 simp only[Bool.and_eq_true,Bool.not_eq_true'] at hok
 obtain⟨⟨⟨⟨⟨hname,h2⟩,hcode⟩,h4⟩,h5⟩,h6⟩:=hok
 have hn:=Nat.le_of_ble_eq_true h4
 have hds:=Nat.le_of_ble_eq_true h5
 have hts:∀t∈ts,t.1<1000000:=fun t ht=>by have:=List.all_eq_true.1 h6 t ht;simpa [Nat.blt_eq] using this
 have hb:=wh h2 (rfl:fn.body.getD .skip=fn.body.getD .skip)
 intro ρ o a w imm Λ F us Q hX hod hd hv hex
 have hvl:=hv.length
 have hul:us.length≤1000000:=by omega
 refine .inl ?_
 simp only[Oper.wp,hex ⟨fn,hf,hname,h2⟩,Oper.upon]
 let ρ':Env:={ ρ with n:=fn.ntmps,args:=gd a ρ us }
 let a':Act:={ tmps:=us.toArray++Array.replicate (fn.ntmps-us.toArray.size) undef,defers:=[] }
 have hslot:∀t,CR w imm (some Λ) (lkS (oP σ as).slots t) (slotv ρ' a' t) Set.no:=fun t=>by
  unfold oP
  dsimp only
  rw[yr,if_pos (Nat.zero_le t),Nat.sub_zero]
  by_cases c:t<as.length
  ·rw[List.getElem?_eq_getElem c]
   dsimp only
   have e:slotv ρ' a' t=us[t]'(by omega):=by
    unfold slotv
    rw[if_pos (by omega)]
    show(us.toArray++Array.replicate (fn.ntmps-us.toArray.size) undef).getD t undef=_
    rw[Array.getD_eq_getD_getElem?,Array.getElem?_append_left (by simp;omega)]
    simp[show t<us.length by omega]
   rw[e]
   exact ah.get hv (List.getElem?_eq_getElem c) (List.getElem?_eq_getElem (by omega))
  ·rw[List.getElem?_eq_none (by omega)]
   dsimp only
   by_cases c2:t<2000000
   ·rw[qc _ _ c2];simp only[CR]
   ·obtain⟨u,rfl⟩:∃u,t=u+2000000:=⟨t-2000000,by omega⟩
    rw[nU]
    have e:slotv ρ' a' (u+2000000)=slotv ρ a u:=by
     rw[←sj (a:=a) (ρ:=ρ) hul u]
     show(if u+2000000<1000000 then _ else(gd a ρ us).getD (u+2000000-1000000) undef)=_
     rw[if_neg (by omega),show u+2000000-1000000=u+1000000 by omega]
    rw[e]
    exact hX.slots u
 have h0:aH ρ' (oP σ as) a' w imm Λ F:=
  {size := by show(us.toArray++Array.replicate (fn.ntmps-us.toArray.size) undef).size=fn.ntmps
              simp;omega
   nlt:=hn
   slots:=hslot
   nodes:=hX.nodes
   dis:=hX.dis
   fimm:=hX.fimm
   flt:=hX.flt
   immlt:=hX.immlt
   imm0:=hX.imm0
   keep:=hX.keep
   grow:=hX.grow
   os:=hX.os
   defers:=rfl
   rs:=hX.rs }
 have hw:=fO hE hm _ _ τ0 h ρ' a' w hcode (c0 ρ' a' w ⟨imm,Λ,F,h0⟩)
 refine Calls.mono' (calls_of_wp hf hb (R:=fun e w'=>match e with
  | .returned v=>∃ws,K ws∧Rel ρ (σ.upd ws) (a.put o.dst v) w'
  |_=>False) (wp_mono hw ?_)) ?_
 ·intro e a2 w2 hq
  have fin:(∃τ,(mN E ts fun vs=>Pg.need (Lv τ (tupOf vs)) (Pg.done [])).holds τ (fun _=>True)∧Rel ρ' τ a2 w2)→bodyPost P fn (fun e w'=>match e with
    | .returned v=>∃ws,K ws∧Rel ρ (σ.upd ws) (a.put o.dst v) w'
    |_=>False) .ret a2 w2:=by
   rintro⟨τ,hh,imm2,Λ2,F2,hY⟩
   obtain⟨rvs,hh1,hrv,hruns⟩:=lI hE hY ts _ hts hh
   obtain⟨hlv,_⟩:=hh1
   obtain⟨τ1,ws1,hcov,hK,hsl,hnd⟩:=hL _ _ hlv
   refine⟨hY.defers,_,qp hres a2.tmps hruns,ws1,hK,?_⟩
   have hr:=Az hrv
   generalize gH (ts.map (oD P w2 a2.tmps)).toArray=v at hr⊢
   let ρ2:Env:={ ρ' with args:=ρ'.args.set 999999 v }
   have hlen:999999<ρ'.args.length:=AV hul
   have sl:∀t,t≠1999999→slotv ρ2 a2 t=slotv ρ' a2 t:=fun t ht=>by
    unfold slotv
    by_cases c:t<1000000
    ·rw[if_pos c,if_pos c]
    ·rw[if_neg c,if_neg c]
     show(ρ'.args.set 999999 v).getD (t-1000000) undef=ρ'.args.getD (t-1000000) undef
     rw[List.getD_eq_getElem?_getD,List.getD_eq_getElem?_getD,List.getElem?_set_ne (by omega)]
   have s9:slotv ρ2 a2 1999999=v:=by
    unfold slotv
    rw[if_neg (by omega)]
    show(ρ'.args.set 999999 v).getD 999999 undef=v
    rw[List.getD_eq_getElem?_getD,List.getElem?_set_self hlen]
    rfl
   have hZ:aH ρ2 ⟨(1999999,tupOf rvs)::τ.slots,τ.heap⟩ a2 w2 imm2 Λ2 F2:=
    {size:=hY.size,nlt:=hY.nlt,nodes:=hY.nodes,dis:=hY.dis,fimm:=hY.fimm,flt:=hY.flt,immlt:=hY.immlt,imm0:=hY.imm0,keep:=hY.keep,grow:=hY.grow,os:=hY.os,defers:=hY.defers,rs:=hY.rs
     slots:=fun t=>by
      show CR w2 imm2 (some Λ2) (lkS ((1999999,tupOf rvs)::τ.slots) t) _ _
      rw[df]
      by_cases c:t=1999999
      ·rw[if_pos c,c,s9];exact hr
      ·rw[if_neg c,sl t c];exact hY.slots t }
   obtain⟨imm3,Λ3,F3,hV⟩:=hcov ρ2 a2 w2 ⟨imm2,Λ2,F2,hZ⟩
   refine⟨imm3,Λ3,F3,?_⟩
   have lr:∀t,slotv ρ2 a2 (ii d t)=slotv ρ (a.put o.dst v) t:=fun t=>by
    rw[hod]
    unfold ii
    have low:∀t,slotv ρ2 a2 (t+2000000)=slotv ρ a t:=fun t=>by
     rw[sl _ (by omega),←sj (a:=a) (ρ:=ρ) hul t]
     show(if t+2000000<1000000 then _ else(gd a ρ us).getD (t+2000000-1000000) undef)=_
     rw[if_neg (by omega),show t+2000000-1000000=t+1000000 by omega]
    cases hdd:d with
    |none=>exact low t
    |some d'=>
     dsimp only
     have hd':d'<ρ.n:=hd d' (by rw[hod,hdd])
     have hnlt:=hX.nlt
     cases hb':Nat.beq t d' with
     |true=>
      have e:=Nat.eq_of_beq_eq_true hb'
      subst e
      show slotv ρ2 a2 1999999=_
      rw[s9]
      unfold slotv
      rw[if_pos (by omega)]
      simp[Act.put,Array.getD_eq_getD_getElem?,hX.size,hd']
     |false=>
      have e:t≠d':=fun e=>by rw[e,Nat.beq_refl] at hb';cases hb'
      show slotv ρ2 a2 (t+2000000)=_
      rw[low]
      unfold slotv
      by_cases c:t<1000000
      ·rw[if_pos c,if_pos c]
       simp[Act.put,Array.getD_eq_getD_getElem?,Array.getElem?_setIfInBounds_ne (fun x=>e x.symm)]
      ·rw[if_neg c,if_neg c]
   exact
    {size:=by
      have:=hX.size
      cases hdd:o.dst with
      |none=>exact this
      |some d'=>simpa [Act.put] using this
     nlt:=hX.nlt
     slots:=fun t=>by
      rw[hsl,←lr t]
      have:=hV.slots (ii d t)
      rw[show lkS (⟨mQ d τ1.slots,τ1.heap⟩:St).slots (ii d t)=lkS τ1.slots t from sO d _ _] at this
      exact this
     nodes:=fun κ=>by rw[hnd];exact hV.nodes κ
     rs:=fun κ=>by rw[hnd];exact hV.rs κ
     dis:=hV.dis
     fimm:=hV.fimm
     flt:=hV.flt
     immlt:=hV.immlt
     imm0:=hV.imm0
     keep:=hV.keep
     grow:=hV.grow
     os:=hV.os
     defers:=by
      have:=hX.defers
      cases hdd:o.dst with
      |none=>exact this
      |some d'=>exact this }
  cases e with
  |normal=>exact fin hq
  |ret=>exact fin hq
  |exit id=>obtain⟨_,h',_⟩:=hq;exact h'.elim
  |_=>exact hq.elim
 ·intro e w' hR
  cases e with
  |panicked _=>exact hR.elim
  |outgrown=>exact hR.elim
  |returned v=>exact hR
theorem yb {P:Program} {E:TE} {C:Ctx} (hC:C=fw P) (hE:EOk P E) (hm:P.follows .mixedOrders=true) {f:FuncId} {fn:Func} {ts:List (Nat×Option Nat)} {d:Option Nat} {as:List A} {σ:St} {K:List W→Prop} (τ0:St) (hf:P.funcs[f]? =some fn)
  (hok:sR fn as.length ts=true) (hres:fn.results.toList=ts.map resVar) (c0:Cov (oP σ as) τ0)
  (h:wpC E C (fn.body.getD .skip) (fun e τ=>match e with
   | .exit _=>False
   |_=>(mN E ts fun vs=>.need (Ch σ d K τ (tupOf vs)) (.done [])).holds τ fun _=>True) τ0):C.IN.go d f as σ K:=by
 have:=yv hC hE hm τ0 (Ch σ d K) (fun τ r hl=>by
  obtain⟨τ1,h1,h2⟩:=hl
  exact⟨τ1,_,h1,h2,Bb σ τ1,CL σ τ1⟩) hf hok hres c0 h
 subst hC
 exact this
theorem vh:∀(H l:List (Key×HN)) (κ:Key),(∀x∈H,lkN l x.1.1 x.1.2=x.2)→lkN (H++l) κ.1 κ.2=lkN l κ.1 κ.2
 |[],_,_,_=>rfl
 |(u,n)::H,l,κ,h=>by
  show lkN ((u,n)::(H++l)) κ.1 κ.2=_
  rw[aY]
  by_cases c:κ=u
  ·rw[if_pos c,c,h (u,n) (by simp)]
  ·rw[if_neg c]
   exact vh H l κ fun x hx=>h x (by simp[hx])
theorem oY (d:Option Nat):∀(l:List (Nat×A)) (t:Nat),(∀u,t≠ii d u)→lkS (mQ d l) t= .hole
 |[],_,_=>rfl
 |(u,a)::l,t,h=>by
  show lkS ((ii d u,a)::mQ d l) t=_
  rw[df,if_neg (h u),oY d l t h]
/-- what is left out is not known -/
theorem xT {σ τ:St} (hs:∀t,lkS τ.slots t=lkS σ.slots t∨lkS τ.slots t= .hole) (hn:∀κ:Key,lkN τ.heap κ.1 κ.2=lkN σ.heap κ.1 κ.2):Cov σ τ:=by
 rintro ρ a w ⟨imm,Λ,F,h⟩
 refine⟨imm,Λ,F,{ h with slots:=fun t=>?_,nodes:=fun κ=>by rw[hn];exact h.nodes κ,rs:=fun κ=>by rw[hn];exact h.rs κ }⟩
 rcases hs t with e|e
 ·rw[e];exact h.slots t
 ·rw[e];simp only[CR]
/-- a call that changes nothing: its code runs with only these nodes known -/
theorem ec {P:Program} {E:TE} {C:Ctx} (hC:C=fw P) (hE:EOk P E) (hm:P.follows .mixedOrders=true) {f:FuncId} {fn:Func} {ts:List (Nat×Option Nat)} {as:List A} {H:List (Key×HN)} {r:A} (hf:P.funcs[f]? =some fn)
  (hok:sR fn as.length ts=true) (hres:fn.results.toList=ts.map resVar)
  (h:∀(S:List (Nat×A)) (N:List (Key×HN)),wpC E C (fn.body.getD .skip) (fun e τ=>match e with
   | .exit _=>False
   |_=>(mN E ts fun vs=>.need (tupOf vs=r∧τ.heap=H++N∧∀t,lkS τ.slots (t+2000000)=lkS S (t+2000000)) (.done [])).holds τ fun _=>True) ⟨tI 0 as++S,H++N⟩):C.IN.ro f as H r:=by
 have key:INr P f as H r:=fun σ d K hH hK=>by
  refine yv hC hE hm ⟨tI 0 as++lT σ.slots,H++σ.heap⟩ (fun τ r'=>r'=r∧τ.heap=H++σ.heap∧∀t,lkS τ.slots (t+2000000)=lkS (lT σ.slots) (t+2000000)) ?_ hf hok hres ?_ (h _ _)
  ·rintro τ r' ⟨rfl,h2,h3⟩
   refine⟨σ.upd (Vm.put d r'),_,?_,hK,fun _=>rfl,fun _=>rfl⟩
   have hp:(σ.upd (Vm.put d r')).heap=σ.heap:=by cases d <;> rfl
   refine xT (fun t=>?_) (fun κ=>?_)
   ·show lkS (mQ d (σ.upd (Vm.put d r')).slots) t=lkS ((1999999,r')::τ.slots) t∨_
    by_cases c:∃u,t=ii d u
    ·obtain⟨u,rfl⟩:=c
     refine .inl ?_
     rw[sO]
     cases d with
     |none=>
      show lkS σ.slots u=lkS _ (u+2000000)
      rw[df,if_neg (by omega),h3,nU]
     |some d'=>
      show lkS ((d',r')::σ.slots) u=_
      unfold ii
      dsimp only
      rw[df]
      cases hb:Nat.beq u d' with
      |true=>rw[if_pos (Nat.eq_of_beq_eq_true hb)];show _=lkS _ 1999999;rw[df,if_pos rfl]
      |false=>
       rw[if_neg (fun e=>by rw[e,Nat.beq_refl] at hb;cases hb)]
       show _=lkS _ (u+2000000)
       rw[df,if_neg (by omega),h3,nU]
    ·exact .inr (oY d _ _ fun u e=>c ⟨u,e⟩)
   ·show lkN (σ.upd (Vm.put d r')).heap κ.1 κ.2=lkN τ.heap κ.1 κ.2
    rw[hp,h2,vh H _ _ hH]
  ·refine xT (fun t=>.inl rfl) (fun κ=>?_)
   show lkN (H++σ.heap) κ.1 κ.2=lkN σ.heap κ.1 κ.2
   exact vh H _ _ hH
 subst hC
 exact key
end Go.Vm
/- Boxes whose lists are opened, no load standing by. -/
namespace Go.Vm
section
variable {P:Program} {ρ:Env} {σ:St} {a:Act} {w:World} {imm:Set} {Λ:Lam} {F:Key→Set} {K:List W→Prop} {Fn:FuncId→List A→List A→A→Prop} {LW:Code→(Ex→St→Prop)→St→Prop} {IN:InT}
/-- what a box owns becomes nodes of slot d -/
def za (C:Ctx) (κ:Key) (d:Nat):Pg:=.gn κ fun h=>match h with
 | .box g cells=>cond (Nat.beq κ.1 d) .fail (gp C d 0 cells fun ws cs'=>.done (.n κ (.box g cs')::ws))
 |_=>.fail
theorem AN (h:aH ρ σ a w imm Λ F) {κ:Key} {d:Nat} (hh:(za (az Fn LW IN) κ d).holds σ K):∃ws,K ws∧Rel ρ (σ.upd ws) a w:=by
 unfold za at hh
 obtain⟨nd,hnd,hN,hh⟩:=h.node hh
 cases nd <;> simp only[Pg.holds] at hh
 rename_i g cells
 by_cases hne:κ.1=d
 ·rw[show Nat.beq κ.1 d=true from Nat.beq_eq.mpr hne] at hh;exact hh.elim
 rw[show Nat.beq κ.1 d=false from Bool.eq_false_iff.2 fun e=>hne (Nat.beq_eq.mp e)] at hh
 obtain⟨ws,cs',Λ',F',τ,r1,r2,r3,_,r5,r6,r7,r8,r9⟩:=jR (post:=[]) (f:=fun _ _=>.fail) (.box g) hne cells [] 0 σ Λ F _ h (by simpa using hnd) (fun _ _=>rfl) hh
 refine⟨_,r1,imm,Λ',F',r3.congr (fun t=>?_) (fun x=>?_)⟩
 ·rw[St.upd,ly r2,r8];rfl
 ·by_cases e:x=κ
  ·subst e
   rw[St.upd,la r2 x hne,r7]
   show lkN ((x,_)::σ.heap) x.1 x.2=_
   rw[aY,if_pos rfl];simp
  ·rw[St.upd,r9 x e]
   refine lU (p:=fun y=>y≠κ) ws (fun y hy=>?_) x e
   show lkN ((κ,_)::σ.heap) y.1 y.2=_
   rw[aY,if_neg hy]
theorem lB {C:Ctx} (hC:C=fw P) {τ:St} (κ:Key) (d:Nat) (hh:(za C κ d).holds σ fun ws=>Cov (σ.upd ws) τ):Cov σ τ:=by
 subst hC
 rintro ρ a w ⟨imm,Λ,F,h⟩
 obtain⟨ws,hk,hr⟩:=AN h hh
 exact hk ρ a w hr
end
/-- the end of a call that changes nothing -/
theorem Rb {g:Prop} (k:g:=by (repeat' apply And.intro) <;> first|trivial|(intro t;simp[Vm.lkS];done)|rfl):g:=k
end Go.Vm
/- The rest of a row of one's own, when what stood ahead of it is let go of. -/
namespace Go.Vm
section
variable {P:Program} {ρ:Env} {σ:St} {a:Act} {w:World} {imm:Set} {Λ:Lam} {F:Key→Set} {K:List W→Prop} {Fn:FuncId→List A→List A→A→Prop} {LW:Code→(Ex→St→Prop)→St→Prop} {IN:InT}
end
/-- nodes under their own names -/
def idm:List (Key×HN)→List (Key×Key)
 |[]=>[]
 |(κ,_)::l=>(κ,κ)::idm l
theorem ai {σ τ:St} (h:Ej (idm τ.heap) σ τ):Cov σ τ:=aq _ h
end Go.Vm
/- Rows of one's own that are let go of, between regions. -/
namespace Go.Vm
section
variable {P:Program} {ρ:Env} {σ:St} {a:Act} {w:World} {imm:Set} {Λ:Lam} {F:Key→Set} {K:List W→Prop} {Fn:FuncId→List A→List A→A→Prop} {LW:Code→(Ex→St→Prop)→St→Prop} {IN:InT}
theorem aH.freeze (h:aH ρ σ a w imm Λ F) {κ:Key} {g k:Nat} {rows:Rows} (hn:lkN σ.heap κ.1 κ.2= .arr g k rows) :
  aH ρ (σ.upd [.n κ (.farr g k (aI rows))]) a w (fun b=>imm b∨F κ b) Λ (up F κ Set.no):=by
 have hi:Set.le imm (fun b=>imm b∨F κ b):=fun b hb=>.inl hb
 have hN:=h.nodes κ
 rw[hn] at hN
 refine{ size:=h.size,nlt:=h.nlt,slots:=fun t=>?_,nodes:=fun x=>?_,dis:=fun x y hxy=>?_,fimm:=fun x=>?_,flt:=fun x b hb=>?_,immlt:=fun b hb=>?_,imm0:=Set.le_trans h.imm0 hi,keep:=h.keep,grow:=h.grow,os:=h.os,defers:=h.defers,rs:=kp trivial fun x _=>h.rs x }
 ·exact CR.stable hi (fun _ _=>rfl) (some Λ) (some Λ) _ _ _ _ (bE?.refl _) (Set.le_refl _) (fun _ _=>rfl) (h.slots t)
 ·show NR w _ Λ (Λ x) (lkN ((κ,HN.farr g k (aI rows))::σ.heap) x.1 x.2) (up F κ Set.no x)
  rw[aY]
  by_cases e:x=κ
  ·subst e
   rw[if_pos rfl,aD]
   obtain⟨n1,n2,n3,n4⟩:=hN
   refine⟨n1,n2,?_,?_⟩
   ·rw[n3,fE]
   ·rcases n4 with⟨q,rfl⟩|⟨b,base,size,S',q,q1,q2,q3,q4,q5,q6⟩
    ·exact .inl ⟨q,by simp only[aI]⟩
    ·exact .inr ⟨b,base,size,q,.inr q1,aw.freeze hi rows b base k S' q6 (fun y hy=>.inr (q3 y hy))⟩
  ·rw[if_neg e,aR _ _ e]
   exact NR.stable hi (fun _ _=>rfl) (fun _ _=>rfl) (bE.refl Λ) (h.nodes x)
 ·by_cases e:x=κ
  ·subst e;rw[aD];exact Set.no_dis _
  ·rw[aR _ _ e]
   by_cases e':y=κ
   ·subst e';rw[aD];exact fun _ _ z=>z
   ·rw[aR _ _ e'];exact h.dis x y hxy
 ·by_cases e:x=κ
  ·subst e;rw[aD];exact Set.no_dis _
  ·rw[aR _ _ e]
   intro b hb hb2
   rcases hb2 with hb2|hb2
   ·exact h.fimm x b hb hb2
   ·exact h.dis x κ e b hb hb2
 ·by_cases e:x=κ
  ·subst e;rw[aD] at hb;exact hb.elim
  ·rw[aR _ _ e] at hb;exact h.flt x b hb
 ·rcases hb with hb|hb
  ·exact h.immlt b hb
  ·have:=h.flt κ b hb
   exact⟨this.1,.inr this.2⟩
/-- nodes are let go of -/
def uJ (C:Ctx):List Key→Pg
 |[]=>.done []
 |κ::ks=>.gn κ fun h=>match h with
  | .arr g k rows=>.wr [.n κ (.farr g k (C.fz rows))] (uJ C ks)
  |_=>.fail
theorem qO:∀(ks:List Key) {σ:St} {imm:Set} {F:Key→Set} {K:List W→Prop},aH ρ σ a w imm Λ F→(uJ (az Fn LW IN) ks).holds σ K→∃ws,K ws∧Rel ρ (σ.upd ws) a w
 |[],σ,imm,F,K,h,hh=>⟨[],hh,imm,Λ,F,h⟩
 |κ::ks,σ,imm,F,K,h,hh=>by
  simp only[uJ,Pg.holds] at hh
  cases hn:lkN σ.heap κ.1 κ.2 <;> rw[hn] at hh <;> simp only[Pg.holds] at hh
  rename_i g k rows
  obtain⟨ws,h1,h2⟩:=qO ks (h.freeze hn) hh
  exact⟨_,h1,by rw[bi];exact h2⟩
theorem gi {E:TE} {C:Ctx} (hC:C=fw P) (hE:EOk P E) (_hm:P.follows .mixedOrders=true) {id:Nat} {ops:Array Oper} {Q:Ex→St→Prop} (ks:List Key) (h:(uJ C ks).holds σ fun ws=>wpOps E C ops.toList (Q .normal) ops.toList (σ.upd ws)):C.LW (.seq (.label 0) (.region id ops false)) Q σ:=by
 subst hC
 refine⟨fun h=>(by cases h),fun l r e=>?_⟩
 cases e
 rintro ρ a w hc ⟨imm,Λ,F,hr⟩
 obtain⟨ws,h1,h2⟩:=qO ks hr h
 exact wp_region_list (lE hE (K:=Q .normal) (fun a w σ hq hr=>⟨σ,hq,hr⟩) ops.toList _ a w (ig hc) (fun _ h=>h) h1 h2)
/-- the same for a region that draws -/
theorem E7 {E:TE} {C:Ctx} (hC:C=fw P) (hE:EOk P E) (hm:P.follows .mixedOrders=true) {id:Nat} {ops:Array Oper} {Q:Ex→St→Prop} (ks:List Key) (h:(uJ C ks).holds σ fun ws=>fV E C ops.toList (Q .normal) ops.toList 0 [] (σ.upd ws)):C.LW (.seq (.label 0) (.region id ops true)) Q σ:=by
 subst hC
 refine⟨fun h=>(by cases h),fun l r e=>?_⟩
 cases e
 rintro ρ a w hc ⟨imm,Λ,F,hr⟩
 obtain⟨ws,h1,h2⟩:=qO ks hr h
 exact pG hE hm (K:=Q .normal) (fun a w σ hq hr=>⟨σ,hq,hr⟩) (ig hc) h1 h2
end
end Go.Vm
/- A function by its code; rows that stand open are shut at its end, or between regions. -/
namespace Go.Vm
/-- rows under these keys that stand open are shut -/
def lc (C:Ctx):List Key→Pg→Pg
 |[],p=>p
 |κ::ks,p=>.gn κ fun h=>match h with
  | .opn g k rows i row=>cT C [κ] row fun _ ws row'=>.wr (.n κ (.arr g k (C.set rows i row'))::ws) (lc C ks p)
  |_=>lc C ks p
def Ek (E:TE) (C:Ctx) (sh:List Key) (c:Code) (ts:List (Nat×Option Nat)) (rm:List Mode) (gs:List Nat) (pm:List Mode) (ds post:List A) (r:A):Prop:=
 nZ C 0 ds ⟨[],[]⟩ fun σ=>wpC E C c (fun e σ=>match e with
  | .exit _=>False
  |_=>(lc C sh (tR E C ts rm gs pm post r)).holds σ fun _=>True) σ
section
variable {P:Program} {E:TE} {ρ:Env} {σ:St} {a:Act} {w:World} {K:List W→Prop} {Fn:FuncId→List A→List A→A→Prop} {LW:Code→(Ex→St→Prop)→St→Prop} {IN:InT}
theorem sx {σ:St} {K K':List W→Prop}:∀(cs:List A) (tk:List Key) (f q:List Key→List W→List A→Pg),(∀tk ws cs',(f tk ws cs').holds σ K→(q tk ws cs').holds σ K')→
  (cT (az Fn LW IN) tk cs f).holds σ K→(cT (az Fn LW IN) tk cs q).holds σ K'
 |[],tk,f,q,hfq,h=>hfq _ _ _ h
 |c::cs,tk,f,q,hfq,h=>by
  have ih:=fun tk f q hfq h=>sx (σ:=σ) (K:=K) (K':=K') cs tk f q hfq h
  cases c with
  |ref κ g i n=>
   by_cases hin:lY κ tk=true
   ·unfold cT at h
    rw[if_pos hin] at h
    exact h.elim
   ·unfold cT at h⊢
    rw[if_neg hin] at h⊢
    simp only[Pg.holds] at h⊢
    cases hn:lkN σ.heap κ.1 κ.2 <;> rw[hn] at h <;> try exact h.elim
    ·rename_i g' k rows
     by_cases hg:g=g'∧i=0
     ·simp only[hg,and_self,if_true,Pg.holds] at h⊢
      exact⟨h.1,ih _ _ _ (fun tk ws cs' h=>hfq _ _ _ h) h.2⟩
     ·simp only[if_neg hg,Pg.holds] at h
    ·rename_i g' k rows
     by_cases hg:g=g'∧i=0
     ·simp only[hg,and_self,if_true,Pg.holds] at h⊢
      exact⟨h.1,ih _ _ _ (fun tk ws cs' h=>hfq _ _ _ h) h.2⟩
     ·simp only[if_neg hg,Pg.holds] at h
  |lit v=>
   by_cases hv:v= .slice none 0 0
   ·subst hv
    obtain⟨o,h⟩:=h
    exact⟨o,ih _ _ _ (fun tk ws cs' h=>hfq _ _ _ h) h⟩
   ·have e:∀f,uc v f=f (.lit v):=by
     intro f
     unfold uc
     split
     ·exact absurd rfl hv
     ·rfl
    simp only[cT,e] at h⊢
    exact ih _ _ _ (fun tk ws cs' h=>hfq _ _ _ h) h
  |tree r=>simp only[cT] at h⊢;exact ih _ _ _ (fun tk ws cs' h=>hfq _ _ _ h) h
  |emp=>simp only[cT] at h⊢;exact ih _ _ _ (fun tk ws cs' h=>hfq _ _ _ h) h
  |_=>exact h.elim
theorem mu:∀(ks:List Key) {p:Pg} {σ:St} {K:List W→Prop},Rel ρ σ a w→(lc (az Fn LW IN) ks p).holds σ K→∃ws,p.holds (σ.upd ws) (fun ws2=>K (ws++ws2))∧Rel ρ (σ.upd ws) a w
 |[],p,σ,K,hr,h=>⟨[],h,hr⟩
 |κ::ks,p,σ,K,hr,h=>by
  simp only[lc,Pg.holds] at h
  cases hn:lkN σ.heap κ.1 κ.2 <;> rw[hn] at h <;> simp only[Pg.holds] at h
  case opn g k rows i row=>
   have h2:(qv (az Fn LW IN) κ).holds σ fun ws=>(lc (az Fn LW IN) ks p).holds (σ.upd ws) fun ws2=>K (ws++ws2):=by
    simp only[qv,Pg.holds]
    rw[hn]
    refine sx row [κ] _ _ (fun tk ws cs' h=>?_) h
    simpa only[Pg.holds] using h
   obtain⟨imm,Λ,F,hX⟩:=hr
   obtain⟨ws,h3,h4⟩:=uO hX h2
   obtain⟨ws',h5,h6⟩:=mu ks h4 h3
   exact⟨ws++ws',by rw[bi];simpa only[List.append_assoc] using h5,by rw[bi];exact h6⟩
  all_goals exact mu ks hr h
end
/-- a function by its code -/
theorem EY {P:Program} {E:TE} (hE:EOk P E) (hm:P.follows .mixedOrders=true) (sh:List Key) {f:FuncId} {fn:Func} {ts:List (Nat×Option Nat)} {rm:List Mode} {pm:List Mode} {ds post:List A} {r:A} (hf:P.funcs[f]? =some fn)
  (hok:sR fn ds.length ts=true) (hres:fn.results.toList=ts.map resVar)
  (h:∀Fn LW IN len cast toNat wrap add sub mul bin lt eq At set part app fz rep nadd nmax ssize sext sget scat seq slt Wide Flat Ones Room (r':A) (post':List A),(⟨Fn,LW,IN,len,cast,toNat,wrap,add,sub,mul,bin,lt,eq,At,set,part,app,fz,rep,nadd,nmax,ssize,sext,sget,scat,seq,slt,Wide,Flat,Ones,Room⟩:Ctx)=fw P→(∀f ds ds' post r,ak P f ds' post r→ds=ds'→Fn f ds post r)→r'=r→post'=post→
   Ek E ⟨Fn,LW,IN,len,cast,toNat,wrap,add,sub,mul,bin,lt,eq,At,set,part,app,fz,rep,nadd,nmax,ssize,sext,sget,scat,seq,slt,Wide,Flat,Ones,Room⟩ sh (fn.body.getD .skip) ts rm ((List.range ds.length).map (1000000+·)) pm ds post' r'):ak P f ds post r:=by
 unfold sR at hok
 simp only[Bool.and_eq_true,Bool.not_eq_true'] at hok
 obtain⟨⟨⟨⟨⟨h1,h2⟩,h3⟩,h4⟩,h5⟩,h6⟩:=hok
 have hb:=h _ _ _ _ _ _ _ _ _ _ _ _ _ _ _ _ _ _ _ _ _ _ _ _ _ _ _ _ _ _ _ _ _ (rfl:(_:Ctx)=fw P) (fun _ _ _ _ _ h e=>by rw[e];exact h) rfl rfl
 refine yJ (R:=fun σ=>(lc (fw P) sh (tR E (fw P) ts rm ((List.range ds.length).map (1000000+·)) pm post r)).holds σ fun _=>True) (rm:=rm) (pm:=pm) hE hm hf h1 (wh h2 rfl) hres h3 (Nat.le_of_ble_eq_true h4) (Nat.le_of_ble_eq_true h5) rfl (fun t ht=>by have:=List.all_eq_true.1 h6 t ht;simpa [Nat.blt_eq] using this) ?_ hb
 intro ρ σ a w hq hr
 obtain⟨ws,g1,g2⟩:=mu sh hr hq
 exact⟨_,g1,g2⟩
end Go.Vm
/- A box that is a row of an array: a contract about the box is one about the array. -/
namespace Go.Vm
section
variable {P:Program} {w w':World} {imm imm':Set}
theorem aj.beside (hi:Set.le imm imm') (he:∀y,imm y→w'.heap[y]? =w.heap[y]?) {b:Nat}:∀(cs:List A) (p:Nat) (S:Set),(∀y,S y→w'.heap[y]? =w.heap[y]?)→(∀j,j<cs.length→w'.cell? ⟨b,p+j,none⟩=w.cell? ⟨b,p+j,none⟩)→aj w imm none cs b p S→aj w' imm' none cs b p S
 |[],_,_,_,_,_=>by simp only[aj]
 |c::cs,p,S,hS,hc,h=>by
  simp only[aj] at h⊢
  obtain⟨v,S1,S2,h1,h2,h3,h4,h5,h6⟩:=h
  have e0:=hc 0 (by simp)
  refine⟨v,S1,S2,by rw[show p=p+0 by omega,e0];exact h1,?_,aj.beside hi he cs (p+1) S2 (fun y hy=>hS y (h5 y hy)) (fun j hj=>?_) h3,h4,h5,h6⟩
  ·exact CR.stable hi he none none _ _ _ _ trivial (Set.le_refl _) (fun y hy=>hS y (h4 y hy)) h2
  ·have:=hc (j+1) (by simpa using hj)
   rw[show p+1+j=p+(j+1) by omega];exact this
theorem aw.beside (hi:Set.le imm imm') (he:∀y,imm y→w'.heap[y]? =w.heap[y]?) {b k:Nat}:∀(rs:Rows) (p:Nat) (S:Set),(∀y,S y→w'.heap[y]? =w.heap[y]?)→(∀q,p≤q→q<p+rs.length * k→w'.cell? ⟨b,q,none⟩=w.cell? ⟨b,q,none⟩)→aw w imm none rs b p k S→aw w' imm' none rs b p k S
 |[],_,_,_,_,_=>by simp only[aw]
 |r::rs,p,S,hS,hc,h=>by
  simp only[aw] at h⊢
  obtain⟨S1,S2,h1,h2,h3,h4,h5,h6⟩:=h
  simp only[List.length_cons,Nat.add_mul,Nat.one_mul] at hc
  refine⟨S1,S2,h1,aj.beside hi he r p S1 (fun y hy=>hS y (h4 y hy)) (fun j hj=>hc _ (by omega) (by omega)) h2,aw.beside hi he rs (p+k) S2 (fun y hy=>hS y (h5 y hy)) (fun q h7 h8=>hc q (by omega) (by omega)) h3,h4,h5,h6⟩
theorem gM.beside (hi:Set.le imm imm') (he:∀y,imm y→w'.heap[y]? =w.heap[y]?) {rows:Rows} {i b base k:Nat} {S:Set} (hl:i<rows.length) (hS:∀y,S y→w'.heap[y]? =w.heap[y]?)
  (hc:∀q,(q<base+i * k∨base+i * k+k≤q)→w'.cell? ⟨b,q,none⟩=w.cell? ⟨b,q,none⟩) (h:gM w imm rows i b base k S):gM w' imm' rows i b base k S:=by
 obtain⟨T1,T2,h1,h2,h3,h4,h5⟩:=h
 refine⟨T1,T2,aw.beside hi he _ _ _ (fun y hy=>hS y (h3 y hy)) (fun q h6 h7=>hc q ?_) h1,aw.beside hi he _ _ _ (fun y hy=>hS y (h4 y hy)) (fun q h6 h7=>hc q ?_) h2,h3,h4,h5⟩
 ·rw[List.length_take,Nat.min_eq_left (by omega)] at h7
  exact .inl h7
 ·rw[Nat.add_mul] at h6
  exact .inr (by omega)
/-- boxes that are rows of arrays -/
inductive ph:List A→List A→List A→List A→Prop
 |nil:ph [] [] [] []
 |same {d p:A} {ds ps ds' ps':List A} (h:ph ds ps ds' ps'):ph (d::ds) (p::ps) (d::ds') (p::ps')
 |row {cells cells':List A} {rows:Rows} {k i:Nat} {ds ps ds' ps':List A} (hr:rows[i]? =some cells) (hl:cells'.length=cells.length) (h:ph ds ps ds' ps'):ph (.obox cells::ds) (.obox cells'::ps) (.optr k rows i::ds') (.optr k (rows.set i cells') i::ps')

theorem ph.take {ds ps ds' ps':List A} (h:ph ds ps ds' ps'):∀(vs:List Value) (S:Set),ah w imm none ds' vs S→(∀b,S b→b<w.heap.size)→∃SL SK:Set,Set.le SL S∧Set.le SK S∧Set.dis SL SK∧ah w imm none ds vs SK∧
  (∀(w':World) (imm' T:Set),Set.le imm imm'→(∀b,SL b→w'.heap[b]? =w.heap[b]?)→(∀b,imm b→w'.heap[b]? =w.heap[b]?)→aQ w w'→KB (NS w w') ps vs→Set.dis T SL→ah w' imm' none ps vs T→ah w' imm' none ps' vs (fun b=>SL b∨T b)∧KB (NS w w') ps' vs):=by
 induction h with
 |nil=>
  intro vs S hv _
  cases vs with
  |nil=>exact⟨Set.no,Set.no,Set.no_le _,Set.no_le _,Set.no_dis _,by simp only[ah],fun _ _ _ _ _ _ _ _ _ _=>⟨by simp only[ah],KB.nil⟩⟩
  |cons=>simp only[ah] at hv
 | @same d p ds ps ds' ps' _ ih=>
  intro vs S hv hlt
  cases vs with
  |nil=>simp only[ah] at hv
  |cons v vs=>
   simp only[ah] at hv
   obtain⟨S1,S2,h1,h2,h3,h4,h5⟩:=hv
   obtain⟨SL,SK,g1,g2,g3,g4,g5⟩:=ih vs S2 h2 fun b hb=>hlt b (h4 b hb)
   refine⟨SL,fun b=>S1 b∨SK b,Set.le_trans g1 h4,fun b hb=>hb.elim (h3 b) (fun z=>h4 b (g2 b z)),fun b hb hc=>hc.elim (fun z=>h5 b z (g1 b hb)) (g3 b hb),?_,?_⟩
   ·simp only[ah]
    exact⟨S1,SK,h1,g4,fun b hb=>.inl hb,fun b hb=>.inr hb,fun b hb hc=>h5 b hb (g2 b hc)⟩
   ·intro w' imm' T q0 q1 q2 q3 q4 q5 q6
    simp only[ah] at q6⊢
    obtain⟨T1,T2,t1,t2,t3,t4,t5⟩:=q6
    obtain⟨r1,r2⟩:=g5 w' imm' T2 q0 q1 q2 q3 (KB.cons.1 q4).2 (fun b hb=>q5 b (t4 b hb)) t2
    exact⟨⟨T1,fun b=>SL b∨T2 b,t1,r1,fun b hb=>.inr (t3 b hb),fun b hb=>hb.imp id (t4 b),fun b hb hc=>hc.elim (fun z=>q5 b (t3 b hb) z) (t5 b hb)⟩,KB.cons.2 ⟨(KB.cons.1 q4).1,r2⟩⟩
 | @row cells cells' rows k i ds ps ds' ps' hr hl _ ih=>
  intro vs S hv hlt
  cases vs with
  |nil=>simp only[ah] at hv
  |cons v vs=>
   simp only[ah] at hv
   obtain⟨S1,S2,h1,h2,h3,h4,h5⟩:=hv
   obtain⟨SL,SK,g1,g2,g3,g4,g5⟩:=ih vs S2 h2 fun b hb=>hlt b (h4 b hb)
   simp only[CR] at h1
   obtain⟨b,o,size,S',e,c1,c2,c3,c4,c5,c6⟩:=h1
   obtain⟨R1,R2,d1,d2,d3,d4,d5,d6,d7⟩:=aw.split rows o i S' cells c6 hr
   have hik:o+i * k+k≤o+rows.length * k:=by
    have:=Nat.mul_le_mul_right k (show i+1≤rows.length by omega)
    rw[Nat.add_mul] at this;omega
   refine⟨fun y=>R2 y∨SL y,fun y=>(y=b∨R1 y)∨SK y,fun y hy=>hy.elim (fun z=>h3 y (c3 y (d2 y z))) (fun z=>h4 y (g1 y z)),fun y hy=>hy.elim (fun z=>z.elim (fun z=>h3 y (z▸c1)) (fun z=>h3 y (c3 y (d1 y z)))) (fun z=>h4 y (g2 y z)),?_,?_,?_⟩
   ·intro y hy hc
    rcases hy with hy|hy <;> rcases hc with(rfl|hc)|hc
    ·exact c2 (d2 _ hy)
    ·exact d3 y hc hy
    ·exact h5 y (c3 y (d2 y hy)) (g2 y hc)
    ·exact h5 _ c1 (g1 _ hy)
    ·exact h5 y (c3 y (d1 y hc)) (g1 y hy)
    ·exact g3 y hy hc
   ·simp only[ah]
    refine⟨fun y=>y=b∨R1 y,SK,?_,g4,fun y hy=>.inl hy,fun y hy=>.inr hy,fun y hy hc=>?_⟩
    ·simp only[CR]
     exact⟨b,o+i * k,size,R1,e,.inl rfl,fun z=>c2 (d1 b z),fun y hy=>.inr hy,c4,by omega,d6⟩
    ·rcases hy with rfl|hy
     ·exact h5 _ c1 (g2 _ hc)
     ·exact h5 y (c3 y (d1 y hy)) (g2 y hc)
   ·intro w' imm' T q0 q1 q2 q3 q4 q5 q6
    simp only[ah] at q6⊢
    obtain⟨T1,T2,t1,t2,t3,t4,t5⟩:=q6
    obtain⟨r1,r2⟩:=g5 w' imm' T2 q0 (fun b hb=>q1 b (.inr hb)) q2 q3 (KB.cons.1 q4).2 (fun b hb hc=>q5 b (t4 b hb) (.inr hc)) t2
    refine⟨⟨fun y=>R2 y∨T1 y,fun y=>SL y∨T2 y,?_,r1,fun y hy=>hy.elim (fun z=>.inl (.inl z)) (fun z=>.inr (t3 y z)),fun y hy=>hy.elim (fun z=>.inl (.inr z)) (fun z=>.inr (t4 y z)),?_⟩,?_⟩
    ·simp only[CR] at t1⊢
     obtain⟨b',o',size',S'',e',f1,f2,f3,f4,f5,f6⟩:=t1
     rw[e] at e'
     simp only[Value.pointer.injEq,Option.some.injEq,Addr.mk.injEq,and_true] at e'
     obtain⟨rfl,rfl⟩:=e'
     have hs:=Own.size_same c4 q3 f4
     subst hs
     have hcell:∀q,(q<o+i * k∨o+i * k+k≤q)→w'.cell? ⟨b,q,none⟩=w.cell? ⟨b,q,none⟩:=fun q hq=>by
      have h0:=(KB.cons.1 q4).1
      simp only[KB] at h0
      rcases h0.1 b (o+i * k) e with h0|h0
      ·have:=hlt b (h3 b c1);omega
      ·exact h0 q (by rw[hl,d4];exact hq)
     refine⟨b,o,_,fun y=>S'' y∨R2 y,e,.inr f1,fun z=>z.elim f2 (fun z=>c2 (d2 b z)),fun y hy=>hy.elim (fun z=>.inr (f3 y z)) .inl,f4,by rw[List.length_set];exact c5,?_⟩
     exact aw.join rows o i _ S'' R2 d5 (by rw[hl,d4]) f6 (gM.beside q0 q2 d5 (fun y hy=>q1 y (.inl hy)) hcell d7) (fun y hy=>.inl hy) (fun y hy=>.inr hy) (fun y hy hc=>q5 y (t3 y (f3 y hy)) (.inl hc))
    ·intro y hy hc
     rcases hy with hy|hy <;> rcases hc with hc|hc
     ·exact h5 y (c3 y (d2 y hy)) (g1 y hc)
     ·exact q5 y (t4 y hc) (.inl hy)
     ·exact q5 y (t3 y hy) (.inr hc)
     ·exact t5 y hy hc
    ·simp only[KB];exact r2

/-- the same in the words of the printed texts -/
inductive qA (C:Ctx):List A→List A→List A→List A→Prop
 |nil:qA C [] [] [] []
 |same {d p:A} {ds ps ds' ps':List A} (h:qA C ds ps ds' ps'):qA C (d::ds) (p::ps) (d::ds') (p::ps')
 |row {cells cells':List A} {rows:Rows} {k i:Nat} {ds ps ds' ps':List A} (hr:C.At rows i cells) (hl:cells'.length=cells.length) (h:qA C ds ps ds' ps'):qA C (.obox cells::ds) (.obox cells'::ps) (.optr k rows i::ds') (.optr k (C.set rows i cells') i::ps')
end
end Go.Vm
