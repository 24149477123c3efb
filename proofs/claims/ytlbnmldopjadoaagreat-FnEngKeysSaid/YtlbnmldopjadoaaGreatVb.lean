/- A small evaluator over the code of a program, and that it is sound, second part. -/
import Derived.Test.YtlbnmldopjadoaaGreatVa
import Derived.Laws.BitsLemmas
import Derived.Room.AppendAny
import Derived.Orders
import Derived.Tactics
set_option linter.unusedSimpArgs false
set_option linter.unusedVariables false
/- Stores, and the shutting of an opened row. -/
namespace Go.Vm
section
variable {P:Program} {E:TE} {Fn:FuncId→List A→List A→A→Prop} {LW:Code→(Ex→St→Prop)→St→Prop} {IN:InT} {ρ:Env} {σ:St} {K:List W→Prop} {o:Oper} {a:Act} {w:World} {Q:Exit→Act→World→Prop} {imm:Set} {Λ:Lam} {F:Key→Set}

theorem pO {ws:List W} {w':World} (hd:o.dst=none) (hr:(execOp a.eval o).run P w= .ok .skip w') (hK:K ws) (h:Rel ρ (σ.upd ws) a w'):bG P ρ σ K o a w Q:=by
 refine .inl ?_
 simp only[Oper.wp,hr,Oper.upon,hd]
 exact⟨ws,hK,h⟩

theorem yQ (σ:St) (κ:Key) (n:HN) (x:Key):lkN (σ.upd [.n κ n]).heap x.1 x.2=if x=κ then n else if x∈([]:List Key) then .dead (Λ x).gen else lkN σ.heap x.1 x.2:=by
 show lkN ((κ,n)::σ.heap) x.1 x.2=_
 rw[aP]
 simp
theorem zk (Λ:Lam):cS Λ []=Λ:=by funext x;simp[cS]

theorem ai.far {w':World} {x:Option Lam} {b:Nat} (hheap:∀y,y≠b→w'.heap[y]? =w.heap[y]?) (hb:¬imm b):∀(cs:List A) (p:Nat) (S:Set),¬S b→(∀j,j<cs.length→w'.cell? ⟨b,p+j,none⟩=w.cell? ⟨b,p+j,none⟩)→ai w imm x cs b p S→ai w' imm x cs b p S
 |[],_,_,_,_,_=>by simp only[ai]
 |c::cs,p,S,hS,hc,h=>by
  simp only[ai] at h⊢
  obtain⟨v,S1,S2,h1,h2,h3,h4,h5,h6⟩:=h
  have e0:=hc 0 (by simp)
  refine⟨v,S1,S2,by rw[show p=p+0 by omega,e0];exact h1,?_,ai.far hheap hb cs (p+1) S2 (fun z=>hS (h5 b z)) (fun j hj=>?_) h3,h4,h5,h6⟩
  ·exact CR.stable (Set.le_refl _) (fun y hy=>hheap y (fun e=>hb (e▸hy))) x x _ _ _ _ (bF?.refl x) (Set.le_refl _) (fun y hy=>hheap y (fun e=>hS (h4 b (e▸hy)))) h2
  ·have:=hc (j+1) (by simpa using hj)
   rw[show p+1+j=p+(j+1) by omega];exact this
theorem aq.far {w':World} {x:Option Lam} {b k:Nat} (hheap:∀y,y≠b→w'.heap[y]? =w.heap[y]?) (hb:¬imm b):∀(rs:Rows) (p:Nat) (S:Set),¬S b→(∀q,p≤q→q<p+rs.length * k→w'.cell? ⟨b,q,none⟩=w.cell? ⟨b,q,none⟩)→aq w imm x rs b p k S→aq w' imm x rs b p k S
 |[],_,_,_,_,_=>by simp only[aq]
 |r::rs,p,S,hS,hc,h=>by
  simp only[aq] at h⊢
  obtain⟨S1,S2,h1,h2,h3,h4,h5,h6⟩:=h
  simp only[qzm,qzJ,Nat.one_mul] at hc
  refine⟨S1,S2,h1,ai.far hheap hb r p S1 (fun z=>hS (h4 b z)) (fun j hj=>hc _ qom qom) h2,aq.far hheap hb rs (p+k) S2 (fun z=>hS (h5 b z)) (fun q h7 h8=>hc q qom qom) h3,h4,h5,h6⟩
/-- the other rows do not see what is written into one -/
theorem iq.write {rows:Rows} {i b base k size off:Nat} {S:Set} {us:List Value} (hown:Own w b size) (hb:¬imm b) (hS:¬S b) (hi:i<rows.length) (hfit:base+rows.length * k≤size) (hoff:off+us.length≤k) (h:iq w imm rows i b base k S) :
  iq (setRow w b (base+i * k+off) us) imm rows i b base k S:=by
 obtain⟨T1,T2,h1,h2,h3,h4,h5⟩:=h
 have heap:∀y,y≠b→(setRow w b (base+i * k+off) us).heap[y]? =w.heap[y]? :=fun y hy=>setRow_heap b us w _ y hy
 have hm:=qzp k (show i+1≤rows.length by omega)
 rw[qzJ] at hm
 refine⟨T1,T2,aq.far heap hb _ _ _ (fun z=>hS (h3 b z)) (fun q h6 h7=>?_) h1,aq.far heap hb _ _ _ (fun z=>hS (h4 b z)) (fun q h6 h7=>?_) h2,h3,h4,h5⟩
 ·rw[fv us hown _ q qom,if_neg]
  rw[qzZ,Nat.min_eq_left qom] at h7
  omega
 ·rw[fv us hown _ q qom,if_neg]
  rw[qzJ] at h6
  omega

theorem Cv (hE:EOk P E) (h:aD ρ σ a w imm Λ F) {t:Nat} {x y:Operand} (ho:o.op= .store t x y)
  (hh:(if o.dst.isSome then Pg.fail else opd x fun x=>opd y fun y=>xl E (au Fn LW IN) t x y).holds σ K):bG P ρ σ K o a w Q:=by
 split at hh
 ·exact hh.elim
 rename_i hdst
 replace hdst:o.dst=none:=by cases hq:o.dst <;> simp[hq] at hdst⊢
 obtain⟨x',y',hx,hy,hk⟩:=h.opd2 hh
 clear hh
 unfold xl at hk
 split at hk
 ·rename_i κ g i off
  replace hk:=bS hk
  obtain⟨vs,hvs,hk⟩:=hk
  split at hk
  ·rename_i hlen
   obtain⟨hlen,hne⟩:=hlen
   replace hne:vs≠[]:=by intro e;rw[e] at hne;simp at hne
   obtain⟨us,hus,hv,h1⟩:=oZ hvs hy
   have hul:=hv.length
   have hune:us≠[]:=by intro e;rw[e] at hul;simp at hul;exact hne (qzA hul.symm)
   replace hk:=h.node hk
   obtain⟨nd,hnd,hN,hk⟩:=hk
   simp only[CR] at hx
   cases nd <;> simp only[Pg.holds] at hk <;> (try exact hk.elim)
   ·-- a box
    rename_i g' cells
    split at hk
    ·rename_i hg
     obtain⟨rfl,rfl⟩:=hg
     obtain⟨cells',hlay,hk⟩:=bS hk
     obtain⟨e1,e2,e3,b,base,size,S',e4,e5,e6,e7,e8,e9,e10⟩:=hN
     obtain⟨b',base',size',q1,q2⟩:=eG.at hx e1 (by rw[e4];simp)
     rw[e4] at q1
     simp only[Loc.at_.injEq] at q1
     obtain⟨rfl,rfl,rfl⟩:=q1
     obtain⟨r1,r2,r3⟩:=ai.lay (x:=some Λ) (U:=S') e8 e9 (h.fimm κ b e5) e6 (fun z=>z) e10 hv hlay hne (Set.le_refl _) (Set.no_le _) (Set.no_dis _)
     have hst:=oq (P:=P) (t:=t) (p:=base+off) hE hus h1 qom hune e8 qom
     have hrun:(execOp a.eval o).run P w= .ok .skip (setRow w b (base+off) us):=by
      simp only[execOp,ho,q2,Nat.zero_mul,Nat.add_zero,Sem.run_bind,hst,Result.andThen_ok,Sem.run_pure]
     refine pO hdst hrun hk ⟨imm,_,_,h.write (κ:=κ) (σ':=σ.upd [.n κ (.box g cells')]) (ks:=[]) (n:=.box g cells') (T:=Set.no) (p:=base+off) (us:=us) e5 (fun _=>rfl) (yQ (Λ:=Λ) σ κ _) (by simp) (fun _ z=>z.elim) ?_ (by
      intro b0 base0 size0 e0
      rw[e4] at e0
      cases e0
      have h0:=h.rs κ
      rw[hnd] at h0
      rw[r2]
      refine(h0 b base size e4).imp id fun hk=>⟨hk.1,fun q hq=>?_⟩
      rw[fv us e8 _ _ qom,if_neg qom]
      exact hk.2 q hq)⟩
     rw[zk]
     exact⟨e1,by rw[r2];exact e2,e3,b,base,size,S',e4,.inl e5,e6,fun y hy=>.inl (e7 y hy),e8.setRow us _,by rw[r2];exact e9,r1⟩
    ·exact hk.elim
   ·-- an array
    rename_i g' k rows
    split at hk
    ·rename_i hg
     subst hg
     obtain⟨row,hrow,hk⟩:=hk
     replace hrow:rows[i]? =some row:=hrow
     obtain⟨ks,ws,cs',T,hk,hv',hkills,hks,hnd',hT⟩:=ka h vs [κ] us _ hv hk
     obtain⟨row',hlay,hk⟩:=bS hk
     obtain⟨e1,e2,e3,b,base,size,S1,S2,e4,e5,e6,e7,e8,e9,e10,e11,e12,e13,e14,e15,e16⟩:=NR.open_row hN hrow
     obtain⟨_,_,_,hN4⟩:=hN
     have hκ:κ∉ks:=fun hm=>hks κ hm (by simp)
     rcases hN4 with⟨_,rfl⟩|⟨b2,base2,size2,S',q4,q5,q6,q7,q8,q9,q10⟩
     ·simp at hrow
     rw[e4] at q4
     simp only[Loc.at_.injEq] at q4
     obtain⟨rfl,rfl,rfl⟩:=q4
     obtain⟨T1,T2,t1,t2,t3,t4,t5,t6,t7⟩:=aq.split rows base i S' row q10 hrow
     have hdT:∀y,T y→¬F κ y:=fun y hy hF=>by
      obtain⟨z,hz,hFz⟩:=hT y hy
      exact h.dis z κ (fun e=>hκ (e▸hz)) y hFz hF
     obtain⟨b',base',size',p1,p2⟩:=eG.at hx e1 (by rw[e4];simp)
     rw[e4] at p1
     simp only[Loc.at_.injEq] at p1
     obtain⟨rfl,rfl,rfl⟩:=p1
     have hfit:base+i * k+row.length≤size:=by
      rw[t4]
      have:=qzp k (show i+1≤rows.length by omega)
      rw[qzJ] at this;omega
     have hbT:¬T b:=fun z=>hdT b z q5
     have hcl:cs'.length=vs.length:=by have:=hv'.length;omega
     obtain⟨r1,r2,r3⟩:=ai.lay (x:=none) (U:=fun y=>T1 y∨T y) q8 hfit (h.fimm κ b q5) (fun z=>q6 (t1 b z)) hbT t6 hv' hlay (by intro e;rw[e] at hcl;exact hne (qzA hcl.symm)) (fun y hy=>.inl hy) (fun y hy=>.inr hy)
      (fun y hy hz=>hdT y hy (q7 y (t1 y hz)))
     have hst:=oq (P:=P) (t:=t) (p:=base+i * k+off) hE hus h1 qom hune q8 qom
     have hrun:(execOp a.eval o).run P w= .ok .skip (setRow w b (base+i * k+off) us):=by
      simp only[execOp,ho,p2,e2,Sem.run_bind,hst,Result.andThen_ok,Sem.run_pure]
     refine pO hdst hrun hk ⟨imm,_,_,h.write (κ:=κ) (ks:=ks) (n:=.arr g k (rows.set i row')) (T:=T) (p:=base+i * k+off) (us:=us) q5 (fun u=>?_) (fun u=>?_) hκ hT ?_ trivial⟩
     ·rw[St.upd,(hkills _).1 u];rfl
     ·rw[St.upd,(hkills _).2 u]
      by_cases hu:u=κ
      ·subst hu
       rw[if_neg hκ,if_pos rfl]
       show lkN ((u,_)::σ.heap) u.1 u.2=_
       rw[aP,if_pos rfl];rfl
      ·rw[if_neg hu]
       by_cases hk2:u∈ks
       ·rw[if_pos hk2,if_pos hk2]
       ·rw[if_neg hk2,if_neg hk2]
        show lkN ((κ,_)::σ.heap) u.1 u.2=_
        rw[aP,if_neg hu]
     ·refine⟨e1,e2,by simp[e3],.inr ⟨b,base,size,fun y=>S' y∨T y,e4,.inl q5,fun z=>z.elim q6 hbT,fun y hy=>hy.elim (fun z=>.inl (q7 y z)) .inr,q8.setRow us _,by simpa using q9,?_⟩⟩
      have hrest:=iq.write (us:=us) (off:=off) q8 (h.fimm κ b q5) (fun z=>q6 (t2 b z)) t5 q9 qom t7
      refine aq.join rows base i _ (fun y=>T1 y∨T y) T2 t5 (by rw[r2];exact t4) r1 hrest (fun y hy=>hy.elim (fun z=>.inl (t1 y z)) .inr) (fun y hy=>.inl (t2 y hy)) (fun y hy hz=>hy.elim (fun z=>t3 y z hz) (fun z=>hdT y z (q7 y (t2 y hz))))
    ·exact hk.elim
   ·-- an opened row
    rename_i g' k rows j row
    split at hk
    ·rename_i hg
     subst hg
     obtain⟨rfl,hk⟩:=hk
     obtain⟨row',hlay,hk⟩:=bS hk
     obtain⟨e1,e2,e3,b,base,size,S1,S2,e4,e5,e6,e7,e8,e9,e10,e11,e12,e13,e14,e15,e16⟩:=hN
     obtain⟨b',base',size',p1,p2⟩:=eG.at hx e1 (by rw[e4];simp)
     rw[e4] at p1
     simp only[Loc.at_.injEq] at p1
     obtain⟨rfl,rfl,rfl⟩:=p1
     have hfit:base+i * k+row.length≤size:=by
      rw[e14]
      have:=qzp k (show i+1≤rows.length by omega)
      rw[qzJ] at this;omega
     obtain⟨r1,r2,r3⟩:=ai.lay (x:=some Λ) (U:=S1) e11 hfit (h.fimm κ b e5) e6 (fun z=>z) e15 hv hlay hne (Set.le_refl _) (Set.no_le _) (Set.no_dis _)
     have hst:=oq (P:=P) (t:=t) (p:=base+i * k+off) hE hus h1 qom hune e11 qom
     have hrun:(execOp a.eval o).run P w= .ok .skip (setRow w b (base+i * k+off) us):=by
      simp only[execOp,ho,p2,e2,Sem.run_bind,hst,Result.andThen_ok,Sem.run_pure]
     refine pO hdst hrun hk ⟨imm,_,_,h.write (κ:=κ) (σ':=σ.upd [.n κ (.opn g k rows i row')]) (ks:=[]) (n:=.opn g k rows i row') (T:=Set.no) (p:=base+i * k+off) (us:=us) e5 (fun _=>rfl) (yQ (Λ:=Λ) σ κ _) (by simp) (fun _ z=>z.elim) ?_ trivial⟩
     rw[zk]
     have hrest:=iq.write (us:=us) (off:=off) e11 (h.fimm κ b e5) e7 e13 e12 qom e16
     exact⟨e1,e2,e3,b,base,size,S1,S2,e4,.inl e5,e6,e7,fun y hy=>.inl (e8 y hy),fun y hy=>.inl (e9 y hy),e10,e11.setRow us _,e12,e13,by rw[r2];exact e14,r1,hrest⟩
    ·exact hk.elim
  ·exact hk.elim
 ·exact hk.elim
end
end Go.Vm
/- Slices that are written out or made. -/
namespace Go.Vm
section
variable {P:Program} {E:TE} {Fn:FuncId→List A→List A→A→Prop} {LW:Code→(Ex→St→Prop)→St→Prop} {IN:InT} {ρ:Env} {σ:St} {K:List W→Prop} {o:Oper} {a:Act} {w:World} {Q:Exit→Act→World→Prop} {imm:Set} {Λ:Lam} {F:Key→Set}

theorem uU (zs:List Value):∀n:Nat,(List.range (n * zs.length)).map (fun i=>zs.toArray[i % zs.toArray.size]!)=(List.replicate n zs).flatten
 |0=>by simp
 |n+1=>by
  have ih:=uU zs n
  rw[List.replicate_succ',List.flatten_append,←ih,qzJ,Nat.one_mul,List.range_add,List.map_append]
  congr 1
  simp only[List.map_map,rb,List.flatten_nil,qzT]
  apply List.ext_getElem
  ·simp
  ·intro i h1 h2
   simp only[List.length_map,List.length_range] at h1
   simp only[List.getElem_map,List.getElem_range,Function.comp,List.size_toArray]
   rw[Nat.mul_comm,Nat.mul_add_mod,Nat.mod_eq_of_lt h1]
   simp[h1]
theorem FD (zs:List Value) (n m:Nat) (hm:m=n * zs.length):(Array.range m).map (fun i=>zs.toArray[i % zs.toArray.size]!)=((List.replicate n zs).flatten).toArray:=by
 apply Array.ext'
 rw[Array.toList_map,Array.toList_range,hm]
 exact uU zs n

theorem ai.append {x:Option Lam} {b:Nat}:∀{cs ds:List A} {p:Nat} {S:Set},ai w imm x (cs++ds) b p S→∃S1 S2,ai w imm x cs b p S1∧ai w imm x ds b (p+cs.length) S2∧Set.le S1 S∧Set.le S2 S∧Set.dis S1 S2
 |[],ds,p,S,h=>⟨Set.no,S,by simp only[ai],by simpa using h,Set.no_le _,Set.le_refl _,Set.no_dis _⟩
 |c::cs,ds,p,S,h=>by
  simp only[qzH,ai] at h
  obtain⟨v,S1,S2,h1,h2,h3,h4,h5,h6⟩:=h
  obtain⟨T1,T2,g1,g2,g3,g4,g5⟩:=ai.append h3
  refine⟨fun y=>S1 y∨T1 y,T2,?_,by rw[show p+(c::cs).length=p+1+cs.length by simp;omega];exact g2,fun y hy=>hy.elim (h4 y) (fun z=>h5 y (g3 y z)),Set.le_trans g4 h5,fun y hy hz=>hy.elim (fun z=>h6 y z (g4 y hz)) (fun z=>g5 y z hz)⟩
  simp only[ai]
  exact⟨v,S1,T1,h1,h2,g1,fun y hy=>.inl hy,fun y hy=>.inr hy,fun y hy hz=>h6 y hy (g3 y hz)⟩
theorem aq.of_cells {x:Option Lam} {b k:Nat}:∀{rows:Rows} {p:Nat} {S:Set},(∀r∈rows,r.length=k)→ai w imm x rows.flatten b p S→aq w imm x rows b p k S
 |[],_,_,_,_=>by simp only[aq]
 |r::rows,p,S,hl,h=>by
  rw[rb] at h
  obtain⟨S1,S2,h1,h2,h3,h4,h5⟩:=h.append
  simp only[aq]
  rw[hl r (by simp)] at h2
  exact⟨S1,S2,hl r (by simp),h1,aq.of_cells (fun q hq=>hl q (by simp[hq])) h2,h3,h4,h5⟩
theorem ai.join {x:Option Lam} {b:Nat}:∀{cs ds:List A} {p:Nat} {S1 S2 S:Set},ai w imm x cs b p S1→ai w imm x ds b (p+cs.length) S2→Set.le S1 S→Set.le S2 S→Set.dis S1 S2→ai w imm x (cs++ds) b p S
 |[],ds,p,S1,S2,S,_,h,_,h2,_=>by simpa using h.mono h2
 |c::cs,ds,p,S1,S2,S,h,h',hS1,hS2,hd=>by
  simp only[ai] at h
  obtain⟨v,T1,T2,g1,g2,g3,g4,g5,g6⟩:=h
  simp only[qzH,ai]
  refine⟨v,T1,fun y=>T2 y∨S2 y,g1,g2,ai.join g3 (by rw[show p+1+cs.length=p+(c::cs).length by simp;omega];exact h') (fun y hy=>.inl hy) (fun y hy=>.inr hy) (fun y hy hz=>hd y (g5 y hy) hz),Set.le_trans g4 hS1,fun y hy=>hy.elim (fun z=>hS1 y (g5 y z)) (hS2 y),fun y hy hz=>hz.elim (g6 y hy) (hd y (g4 y hy))⟩
theorem aq.cells {x:Option Lam} {b k:Nat}:∀{rows:Rows} {p:Nat} {S:Set},aq w imm x rows b p k S→ai w imm x rows.flatten b p S∧∀r∈rows,r.length=k
 |[],_,_,_=>by simp[ai]
 |r::rows,p,S,h=>by
  simp only[aq] at h
  obtain⟨S1,S2,h1,h2,h3,h4,h5,h6⟩:=h
  obtain⟨g1,g2⟩:=aq.cells h3
  refine⟨by rw[rb];exact ai.join h2 (by rw[h1];exact g1) h4 h5 h6,fun q hq=>?_⟩
  rcases qzo.1 hq with rfl|hq
  ·exact h1
  ·exact g2 q hq
theorem fL {k:Nat}:∀{rows:Rows},(∀r∈rows,r.length=k)→rows.flatten.length=rows.length * k
 |[],_=>by simp
 |r::rows,h=>by
  rw[rb,qzg,fL (fun q hq=>h q (by simp[hq])),h r (by simp),qzm,qzJ];omega

theorem rH (h:aD ρ σ a w imm Λ F):∀(vs:List (Nat×A)) (tk:List Key) (us:List Value) (f:List W→List (Nat×List A)→Pg),af w imm (some Λ) (vs.map (·.2)) us Set.no→(tH (au Fn LW IN) tk vs f).holds σ K→
  ∃ks ws rs T,(f ws rs).holds σ K∧ec Λ ks ws∧(∀x∈ks,x∉tk)∧(∀b,T b→∃x∈ks,F x b)∧rs.map (·.1)=vs.map (·.1)∧
   ∃xs:List (List Value),us.map Value.cells=xs.map List.toArray∧af w imm none (rs.map (·.2)).flatten xs.flatten T∧rs.map (fun r=>r.2.length)=xs.map List.length
 |[],tk,us,f,hv,hh=>by
  cases us with
  |nil=>exact⟨[],[],[],Set.no,hh,ec.nil Λ,by simp,fun _ z=>z.elim,rfl,[],rfl,by simp[af],rfl⟩
  |cons=>simp only[pC,af] at hv
 |(i,y)::vs,tk,[],f,hv,hh=>by simp only[qzG,af] at hv
 |(i,y)::vs,tk,u::us,f,hv,hh=>by
  simp only[qzG,af] at hv
  obtain⟨S1,S2,hy,hv,hS1,hS2,_⟩:=hv
  simp only[tH] at hh
  obtain⟨cs,hcs,hh⟩:=bS hh
  obtain⟨xs,hxs,hxv,_⟩:=oZ hcs (hy.mono hS1)
  obtain⟨ks,ws,cs',T,hh,r2,r3,r4,r5,r6⟩:=ka h cs tk xs _ hxv hh
  obtain⟨ks2,ws2,rs,T2,q1,q2,q3,q4,q5,xss,q6,q7,q8⟩:=rH h vs (ks.reverse++tk) us _ (hv.mono hS2) hh
  have hlen:=r2.length
  refine⟨ks++ks2,ws++ws2,(i,cs')::rs,fun b=>T b∨T2 b,q1,r3.append q2,?_,?_,by simp[q5],xs::xss,by simp[hxs,q6],?_,by simp[q8,hlen]⟩
  ·intro x hx
   rcases List.mem_append.1 hx with hx|hx
   ·exact r4 x hx
   ·exact fun hm=>q3 x hx (ya _ hm)
  ·rintro b (hb|hb)
   ·obtain⟨x,hx,hF⟩:=r6 b hb;exact⟨x,qzX _ hx,hF⟩
   ·obtain⟨x,hx,hF⟩:=q4 b hb;exact⟨x,ya _ hx,hF⟩
  ·have hdis:Set.dis T T2:=fun b hb hb2=>by
    obtain⟨x,hx,hF⟩:=r6 b hb
    obtain⟨x2,hx2,hF2⟩:=q4 b hb2
    refine h.dis x x2 (fun e=>q3 x2 hx2 ?_) b hF hF2
    rw[←e];simp[hx]
   have join:∀{cs:List A} {vs:List Value},af w imm none cs vs T→af w imm none (cs++(rs.map (·.2)).flatten) (vs++xss.flatten) (fun b=>T b∨T2 b):=by
    intro cs
    have gen:∀(cs:List A) (vs:List Value) (T:Set),Set.dis T T2→af w imm none cs vs T→af w imm none (cs++(rs.map (·.2)).flatten) (vs++xss.flatten) (fun b=>T b∨T2 b):=by
     intro cs
     induction cs with
     |nil=>
      intro vs T hd hv
      cases vs with
      |nil=>exact q7.mono (fun y hy=>.inr hy)
      |cons=>simp only[af] at hv
     |cons c cs ih=>
      intro vs T hd hv
      cases vs with
      |nil=>simp only[af] at hv
      |cons v vs=>
       simp only[af] at hv
       obtain⟨U1,U2,g1,g2,g3,g4,g5⟩:=hv
       simp only[qzH,af]
       exact⟨U1,_,g1,ih vs U2 (Set.dis_le hd g4 (Set.le_refl _)) g2,fun y hy=>.inl (g3 y hy),fun y hy=>hy.elim (fun z=>.inl (g4 y z)) .inr,fun y hy hz=>hz.elim (g5 y hy) (hd y (g3 y hy))⟩
    intro vs hv
    exact gen cs vs T hdis hv
   simp only[qzG,rb]
   exact join r2

theorem af.split {x:Option Lam}:∀{cs ds:List A} {vs us:List Value} {T:Set},vs.length=cs.length→af w imm x (cs++ds) (vs++us) T→∃T1 T2,af w imm x cs vs T1∧af w imm x ds us T2∧Set.le T1 T∧Set.le T2 T∧Set.dis T1 T2
 |[],ds,[],us,T,_,h=>⟨Set.no,T,by simp only[af],by simpa using h,Set.no_le _,Set.le_refl _,Set.no_dis _⟩
 |[],ds,_::_,us,T,hl,h=>by simp at hl
 |_::_,ds,[],us,T,hl,h=>by simp at hl
 |c::cs,ds,v::vs,us,T,hl,h=>by
  simp only[qzH,af] at h
  obtain⟨S1,S2,h1,h2,h3,h4,h5⟩:=h
  obtain⟨T1,T2,g1,g2,g3,g4,g5⟩:=af.split (by simpa using hl) h2
  refine⟨fun y=>S1 y∨T1 y,T2,?_,g2,fun y hy=>hy.elim (h3 y) (fun z=>h4 y (g3 y z)),Set.le_trans g4 h4,fun y hy hz=>hy.elim (fun z=>h5 y z (g4 y hz)) (fun z=>g5 y z hz)⟩
  simp only[af]
  exact⟨S1,T1,h1,g1,fun y hy=>.inl hy,fun y hy=>.inr hy,fun y hy hz=>h5 y hy (g3 y hz)⟩

theorem Hw {k:Nat} {rows:Rows} {i:Nat} {r:List A} (hl:∀q∈rows,q.length=k) (hr:r.length=k) (hi:i<rows.length):lay (i * k) r rows.flatten=some (rows.set i r).flatten:=by
 have h1:rows.flatten=(rows.take i).flatten++(rows[i]++(rows.drop (i+1)).flatten):=by
  have:=congrArg List.flatten (List.take_append_drop i rows).symm
  rw[qzj hi,List.flatten_append,rb] at this
  exact this
 have h2:(rows.set i r).flatten=(rows.take i).flatten++(r++(rows.drop (i+1)).flatten):=by
  rw[List.set_eq_take_append_cons_drop,if_pos hi]
  simp
 have h3:(rows.take i).flatten.length=i * k:=by
  rw[fL (fun q hq=>hl q (tn hq)),qzZ,Nat.min_eq_left qom]
 rw[h1,h2,←h3]
 exact sf _ _ _ _ (by rw[hr,hl _ (qze hi)])

theorem qx {k:Nat} (hk:k≠0):∀(rs:List (Nat×List A)) (us:List Value) (xs:List (List Value)) (rows rows':Rows) (zs:List Value) (S T U:Set),us.map Value.cells=xs.map List.toArray→af w imm none (rs.map (·.2)).flatten xs.flatten T→
  rs.map (fun r=>r.2.length)=xs.map List.length→(∀q∈rows,q.length=k)→af w imm none rows.flatten zs S→Set.le S U→Set.le T U→Set.dis T S→oH k rs rows=some rows'→
  ∃zs',Instr.fill (fun i=>some (i * k,k)) zs.toArray ((rs.map (·.1)).zip us)=some zs'.toArray∧af w imm none rows'.flatten zs' U∧(∀q∈rows',q.length=k)∧rows'.length=rows.length
 |[],us,xs,rows,rows',zs,S,T,U,_,_,_,hl,hz,hS,_,_,h=>by
  simp[oH] at h;subst h
  exact⟨zs,by simp[Instr.fill],hz.mono hS,hl,rfl⟩
 |(i,r)::rs,us,xs,rows,rows',zs,S,T,U,hu,hv,hlen,hl,hz,hS,hT,hd,h=>by
  cases xs with
  |nil=>simp at hlen
  |cons x xs=>
   cases us with
   |nil=>simp at hu
   |cons u us=>
    simp only[qzG,List.cons.injEq] at hu hlen
    simp only[qzG,rb] at hv
    obtain⟨T1,T2,g1,g2,g3,g4,g5⟩:=af.split hlen.1.symm hv
    simp only[oH] at h
    split at h
    ·rename_i hc
     obtain⟨hr,hi⟩:=hc
     have hlay:=Hw hl hr hi
     have hne:r≠[]:=by intro e;rw[e] at hr;simp at hr;exact hk hr.symm
     rcases mb (i * k) r rows.flatten _ x zs T1 S (fun y=>T1 y∨S y) (fun y hy=>.inl hy) (fun y hy=>.inr hy) (Set.dis_le hd g3 (Set.le_refl _)) g1 hz hlay with⟨r1,r2,r3⟩|⟨_,_,e⟩
     ·have hl2:∀q∈rows.set i r,q.length=k:=fun q hq=>by
       rcases List.mem_or_eq_of_mem_set hq with hq|rfl
       ·exact hl q hq
       ·exact hr
      obtain⟨zs',q1,q2,q3,q4⟩:=qx hk rs us xs (rows.set i r) rows' _ (fun y=>T1 y∨S y) T2 U hu.2 g2 hlen.2 hl2 r1 (fun y hy=>hy.elim (fun z=>hT y (g3 y z)) (hS y)) (Set.le_trans g4 hT) (fun y hy hz=>hz.elim (fun z=>g5 y z hy) (fun z=>hd y (g4 y hy) z)) h
      refine⟨zs',?_,q2,q3,by rw[q4];simp⟩
      simp only[qzG,List.zip_cons_cons,Instr.fill,hu.1]
      have e1:x.toArray.size=k:=by have:=g1.length;simp;omega
      rw[if_neg (by simp[e1];simp at e1;omega),zg r3]
      exact q1
     ·exact absurd e hne
    ·simp at h

theorem pZ (zs:List Value):∀n:Nat,af w imm none ((List.replicate n (zs.map A.lit)).flatten) ((List.replicate n zs).flatten) Set.no:=by
 have one:∀(l:List Value) (cs:List A) (vs:List Value),af w imm none cs vs Set.no→af w imm none (l.map A.lit++cs) (l++vs) Set.no:=by
  intro l
  induction l with
  |nil=>intro cs vs h;exact h
  |cons v l ih=>intro cs vs h;simp only[qzG,qzH,af];exact⟨Set.no,Set.no,by simp only[CR],ih cs vs h,Set.le_refl _,Set.le_refl _,Set.no_dis _⟩
 intro n
 induction n with
 |zero=>simp[af]
 |succ n ih=>rw[List.replicate_succ,List.replicate_succ,rb,rb];exact one zs _ _ ih

/-- a new array becomes a node, and its slice a slot's value -/
theorem vH {w1:World} (h:aD ρ σ a w imm Λ F) (hd:∀t,o.dst=some t→t<ρ.n) {d:Nat} (hod:o.dst=some d) {e n cap k:Nat} {zs:List Value} {rows:Rows} {T:Set} (hT:∀κ',Set.dis T (F κ')) (hTi:Set.dis T imm) (hTlt:∀b,T b→b<w.heap.size∧(ρ.own0 b∨ρ.w0.heap.size≤b))
  {c:Array Value} (hc:∀j,j<zs.length→c[j]? =zs[j]?) (hv:af w imm none rows.flatten zs T) (hl:∀q∈rows,q.length=k) (hn:n=rows.length) (hcap:n≤cap) (hsz:cap * k≤c.size) {ws:List W} {g:Nat} (hg:g=(lkN σ.heap d 0).gen+1)
  (hrun:(execOp a.eval o).run P w1= .ok (.value (.slice (some ⟨w.heap.size,0,none⟩) n cap)) { w with heap:=w.heap.push (.cells c e) }) (hσ:∀K',K'=K→K (ws++[.n (d,0) (.arr g k rows),.s d (.ref (d,0) g 0 n)])) {σ0:St} (hσ0:σ=σ0.upd ws) :
  o.wp P a w1 (fun a' w'=>∃ws,K ws∧Rel ρ (σ0.upd ws) a' w') Q:=by
 have hzl:=hv.length
 have hfl:=fL hl
 have hmk:rows.length * k≤cap * k:=qzp k qom
 have hb:¬T w.heap.size:=fun z=>by have:=(hTlt _ z).1;omega
 obtain⟨Λ',F',hr,hΛ⟩:=h.newnode (κ:=(d,0)) (n:=.arr g k rows) (i:=⟨g,.at_ w.heap.size 0 c.size,k,rows.length⟩) (c:=c) (e:=e) (T:=T) hg hT hTi hTlt (by
  refine⟨rfl,rfl,rfl,.inr ⟨w.heap.size,0,c.size,T,rfl,.inl rfl,hb,fun y hy=>.inr hy,⟨c,e,0,0,rl,rfl,qzi _⟩,by omega,?_⟩⟩
  refine aq.of_cells hl (ai.of_vals (vs:=zs) ?_ (fun j hj=>?_))
  ·exact af.stable (Set.le_refl _) (fun b hb=>jf (h.immlt b hb).1) none none _ _ _ _ trivial (Set.le_refl _) (fun y hy=>jf (hTlt y hy).1) hv
  ·rw[cell?_block rl,qP];exact hc j hj) trivial
 simp only[Oper.wp,hrun,Oper.upon]
 refine⟨_,hσ K rfl,imm,Λ',F',?_⟩
 have:=hr.put (d:=some d) (x:=.ref (d,0) g 0 n) (v:=.slice (some ⟨w.heap.size,0,none⟩) n cap) (fun t ht=>by cases ht;exact hd d hod) (by
  simp only[CR,hΛ,eB]
  exact⟨qzi _,fun _=>⟨0,cap,rfl,hcap,by omega,Nat.zero_le _,.inr ⟨by simp,by simpa using hsz⟩⟩,_,_,_,rfl⟩)
 rw[hod,bo,←hσ0]
 exact this

theorem wX (hE:EOk P E) (h:aD ρ σ a w imm Λ F) (hd:∀t,o.dst=some t→t<ρ.n) {t:Nat} {x y:Operand} (ho:o.op= .makeSlice t x y)
  (hh:(opd x fun l=>opd y fun c=>pA E (au Fn LW IN) o.dst t l c).holds σ K):bG P ρ σ K o a w Q:=by
 obtain⟨x',y',hx,hy,hk⟩:=h.opd2 hh
 clear hh
 unfold pA at hk
 split at hk
 ·rename_i e n m ht
  split at hk
  ·exact hk.elim
  rename_i hzb
  have hz:(E.info e).size≠0:=fun z=>hzb (.inl z)
  have hb:(E.info e).bytes≠0:=fun z=>hzb (.inr z)
  obtain⟨⟨h0,h1,h2⟩,hk⟩:=hk
  replace h0:0≤n:=Int.not_lt.1 (of_decide_eq_false h0)
  replace h1:n≤m:=Int.not_lt.1 (of_decide_eq_false h1)
  replace h2:m.toNat * (E.info e).bytes≤140737488355328:=h2
  have h3:m * (E.info e).bytes≤140737488355328:=by
   have q:((m.toNat * (E.info e).bytes:Nat):Int)≤140737488355328:=Int.ofNat_le.2 h2
   rwa [Int.natCast_mul,Int.toNat_of_nonneg qom] at q
  replace h2:m≤4611686018427387904:=by
   have q:=Nat.le_mul_of_pos_right m.toNat (Nat.pos_of_ne_zero hb)
   omega
  obtain⟨d,hod,hk⟩:=bS hk
  replace hx:=bM hx
  replace hy:=bM hy
  obtain⟨i,td,z,_,_,_,hd',htd,_⟩:=hE t (.inr (by rw[ht];rfl))
  rw[ht] at htd
  cases td <;> simp only[ez] at htd
  rename_i el
  obtain rfl:e=el:=htd.symm
  obtain⟨i',td',z',hi',hsz',hby,_,_,hz1,hz2,hz3⟩:=hE e (.inl hz)
  have hzl:z'.cells.toList.length=(E.info e).size:=by rw[←hz3,hz2];simp
  have hzsz:z'.cells.size=(E.info e).size:=by rw[←hzl];simp
  refine .inl (vH (σ0:=σ) (ws:=[]) (e:=e) (n:=n.toNat) (cap:=m.toNat) (k:=(E.info e).size) (zs:=(List.replicate n.toNat z'.cells.toList).flatten) (rows:=List.replicate n.toNat (E.info e).zero) (T:=Set.no)
   (c:=(Array.range (m.toNat * (E.info e).size)).map (fun i=>z'.cells[i % z'.cells.size]!)) h hd hod (fun _=>Set.no_dis _) (Set.no_dis _) (fun _ z=>z.elim) ?_ ?_ (fun q hq=>by rw[(List.mem_replicate.1 hq).2,hz3]) (by simp) qom (by simp) rfl ?_ (fun _ _=>hk) rfl)
  ·intro j hj
   have hj':j<n.toNat * (E.info e).size:=by
    rw[List.length_flatten] at hj
    simpa [hzsz] using hj
   have hm':=qzp (E.info e).size (show n.toNat≤m.toNat by omega)
   have e1:=uU z'.cells.toList n.toNat
   rw[←e1,hzl]
   have q1:((Array.range (m.toNat * (E.info e).size)).map (fun i=>z'.cells[i % z'.cells.size]!))[j]? =some (z'.cells[j % z'.cells.size]!):=by
    rw[Array.getElem?_map,Array.getElem?_range,if_pos qom];rfl
   have q2:((List.range (n.toNat * (E.info e).size)).map (fun i=>z'.cells.toList.toArray[i % z'.cells.toList.toArray.size]!))[j]? =some (z'.cells[j % z'.cells.size]!):=by
    rw[qzC,List.getElem?_range hj'];simp
   rw[q1,q2]
  ·rw[hz2];exact pZ _ _
  ·have hw:∀q:Int,0≤q→q≤4611686018427387904→IntKind.i64.wrap q=q:=fun q hq0 hq1=>by rw[IntKind.wrap_i64];omega
   have hw1:=hw n h0 qom
   have hw2:=hw m qom h2
   have p48:(2:Int) ^ 48=281474976710656:=by decide
   have hbm:¬((i'.bytes:Int) * m>2 ^ 48):=by rw[hby,p48,Int.mul_comm];omega
   have hbn:¬((i'.bytes:Int) * n>2 ^ 48):=by
    have:(i'.bytes:Int) * n≤i'.bytes * m:=Int.mul_le_mul_of_nonneg_left h1 qom
    omega
   have hm0:¬m<0:=by omega
   have hn0:¬n<0:=by omega
   have hnm:¬n>m:=by omega
   have hnew:∀cs:Array Value,(newRow e cs).run P w= .ok ⟨w.heap.size,0,none⟩ { w with heap:=w.heap.push (.cells cs e) }:=fun cs=>by simp[newRow]
   by_cases hz0:m.toNat * (E.info e).size=0
   ·simp[execOp,ho,hx,hy,Instr.makeSlice,run_underlying hd',asInt,asIntOf,lL hi',hw1,hw2,eO hi',hsz',run_askRoom,hm0,hn0,hnm,hz0,hnew]

    rw[if_neg qom];simp[show Array.range 0= #[] from rfl]
   ·simp[execOp,ho,hx,hy,Instr.makeSlice,run_underlying hd',asInt,asIntOf,lL hi',hw1,hw2,eO hi',hsz',run_askRoom,rr hi' hz1,hm0,hn0,hnm,hz0,hnew]

    intro hc;omega
 ·exact hk.elim
end
end Go.Vm
/- Slices that are written out; appends. -/
namespace Go.Vm
section
variable {P:Program} {E:TE} {Fn:FuncId→List A→List A→A→Prop} {LW:Code→(Ex→St→Prop)→St→Prop} {IN:InT} {ρ:Env} {σ:St} {K:List W→Prop} {o:Oper} {a:Act} {w:World} {Q:Exit→Act→World→Prop} {imm:Set} {Λ:Lam} {F:Key→Set}

theorem FR (h:aD ρ σ a w imm Λ F) {ks:List Key} {T:Set} (hT:∀b,T b→∃x∈ks,F x b) :
  (∀κ',Set.dis T (ee F ks κ'))∧Set.dis T imm∧∀b,T b→b<w.heap.size∧(ρ.own0 b∨ρ.w0.heap.size≤b):=by
 refine⟨fun κ' b hb hk=>?_,fun b hb hi=>?_,fun b hb=>?_⟩
 ·obtain⟨x,hx,hF⟩:=hT b hb
  simp only[ee] at hk
  split at hk
  ·exact hk
  ·rename_i hn
   exact h.dis x κ' (fun e=>hn (e▸hx)) b hF hk
 ·obtain⟨x,_,hF⟩:=hT b hb;exact h.fimm x b hF hi
 ·obtain⟨x,_,hF⟩:=hT b hb;exact h.flt x b hF
theorem ec.gen (h:aD ρ σ a w imm Λ F) {ks:List Key} {ws:List W} (hk:ec Λ ks ws) (x:Key):(lkN (σ.upd ws).heap x.1 x.2).gen=(lkN σ.heap x.1 x.2).gen:=by
 rw[(hk σ).2 x]
 split
 ·exact rn h x
 ·rfl

theorem vh (hE:EOk P E) (h:aD ρ σ a w imm Λ F) (hd:∀t,o.dst=some t→t<ρ.n) {t n:Nat} {ps:Array (Nat×Operand)} (ho:o.op= .buildSlice t n ps)
  (hh:(oN E (au Fn LW IN) o.dst t n ps.toList).holds σ K):bG P ρ σ K o a w Q:=by
 unfold oN at hh
 split at hh
 ·rename_i e ht
  split at hh
  ·exact hh.elim
  rename_i hsize
  obtain⟨vs,hh2,hidx,hv⟩:=nz h hh
  clear hh
  obtain⟨ks,ws,rs,T,hh3,hk,_,hT,hidx2,xs,q6,q7,q8⟩:=rH h vs [] _ _ hv hh2
  clear hh2
  obtain⟨rows,hf,hh4⟩:=bS hh3
  clear hh3
  obtain⟨d,hod,hk4⟩:=bS hh4
  clear hh4
  obtain⟨i,td,z,_,_,_,hd',htd,_⟩:=hE t (.inr (by rw[ht];rfl))
  rw[ht] at htd
  cases td <;> simp only[ez] at htd
  rename_i el
  obtain rfl:e=el:=htd.symm
  have hz:(E.info e).size≠0:=fun h0=>hsize (.inr h0)
  obtain⟨i',td',z',hi',hsz',hby,_,_,hz1,hz2,hz3⟩:=hE e (.inl hz)
  have hzl:z'.cells.toList.length=(E.info e).size:=by rw[←hz3,hz2];simp
  have hzsz:z'.cells.size=(E.info e).size:=by rw[←hzl];simp
  have hrep:=pZ (w:=w) (imm:=imm) z'.cells.toList n
  rw[←hz2] at hrep
  obtain⟨zs',g1,g2,g3,g4⟩:=qx hz rs _ xs _ rows _ Set.no T T q6 q7 q8 (fun q hq=>by rw[(List.mem_replicate.1 hq).2,hz3]) hrep (Set.no_le _) (Set.le_refl _) (fun _ _ z=>z.elim) hf
  obtain⟨t1,t2,t3⟩:=FR h hT
  have hr:=h.kills hk
  have hlen:zs'.length=n * (E.info e).size:=by
   rw[g2.length,fL g3,g4];simp
  refine .inl (vH (σ:=σ.upd ws) (σ0:=σ) (ws:=ws) (e:=e) (n:=n) (cap:=n) (k:=(E.info e).size) (zs:=zs') (rows:=rows) (T:=T) (c:=zs'.toArray) hr hd hod t1 t2 t3 (fun j _=>by simp) g2 g3 (by simpa using g4.symm) (qzi _) (by simp[hlen]) (by rw[hk.gen h (d,0)]) ?_ (fun _ _=>hk4) rfl)
  have hnew:∀cs:Array Value,(newRow e cs).run P w= .ok ⟨w.heap.size,0,none⟩ { w with heap:=w.heap.push (.cells cs e) }:=fun cs=>by simp[newRow]
  have hparts:(ps.map fun p=>(p.1,a.eval p.2)).toList=(rs.map (·.1)).zip (ps.toList.map fun p=>a.eval p.2):=by
   rw[hidx2,hidx]
   simp only[Array.toList_map]
   rw[List.zip_map']
  have hfill:Instr.fill (fun i=>some (i * (E.info e).size,(E.info e).size)) ((Array.range (n * (E.info e).size)).map (fun i=>z'.cells[i % z'.cells.size]!)) (ps.map fun p=>(p.1,a.eval p.2)).toList=some zs'.toArray:=by
   rw[hparts,←g1]
   congr 1
   have:=FD z'.cells.toList n (n * (E.info e).size) (by rw[hzl])
   simpa using this
  have p24:(2:Nat) ^ 24=16777216:=by decide
  have h1:¬n * (E.info e).size>16777216:=fun x=>hsize (.inl x)
  by_cases h2:n * (E.info e).size=0
  ·have hfill':Instr.fill (fun i=>some (i * (E.info e).size,(E.info e).size)) ((Array.range (n * (E.info e).size)).map (fun i=>(#[]:Array Value)[i % (#[]:Array Value).size]!)) (ps.map fun p=>(p.1,a.eval p.2)).toList=some zs'.toArray:=by
    rw[←hfill,h2];simp[show Array.range 0= #[] from rfl]
   simp only[execOp,ho,Instr.buildSlice,Sem.run_bind,run_underlying hd',Result.andThen_ok,eO hi',hsz',p24,if_neg h1,if_pos h2,Sem.run_pure,hfill',hnew]
  ·simp only[execOp,ho,Instr.buildSlice,Sem.run_bind,run_underlying hd',Result.andThen_ok,eO hi',hsz',p24,if_neg h1,if_neg h2,rr hi' hz1,Sem.run_pure,hfill,hnew]
 ·exact hh.elim
end
end Go.Vm
/- Appends. -/
namespace Go.Vm
section
variable {P:Program} {E:TE} {Fn:FuncId→List A→List A→A→Prop} {LW:Code→(Ex→St→Prop)→St→Prop} {IN:InT} {ρ:Env} {σ:St} {K:List W→Prop} {o:Oper} {a:Act} {w:World} {Q:Exit→Act→World→Prop} {imm:Set} {Λ:Lam} {F:Key→Set}

/-- what is appended: its cells, read or taken -/
structure pL (P:Program) (w:World) (imm:Set) (F:Key→Set) (k:Nat) (y:A) (v:Value) (n:Nat) (rows:Rows) (us:List Value) (T:Set) (ks:List Key):Prop where
 val:∃ad c,v= .slice ad n c∧(n=0∨∃b p,ad=some ⟨b,p,none⟩∧Room.holdsV w ⟨b,p,none⟩ (n * k)=true∧(imm b∨∃κ' g i m,y= .ref κ' g i m∧F κ' b))
 cells:∀w':World,w'.heap=w.heap→(Builtin.firstCells k n v).run P w'= .ok us.toArray w'
 vals:af w imm none rows.flatten us T
 wide:∀q∈rows,q.length=k
 len:rows.length=n
 one:∀u∈us,(∀c,u≠ .agg c)∧(∀c,u≠ .tuple c)
 sub:∀b,T b→∃x∈ks,F x b
 keys:∀x∈ks,∃g i m,y= .ref x g i m

theorem DP {v:Value} (h:(∀c,v≠ .agg c)∧(∀c,v≠ .tuple c)):v.oneCell'=true:=by
 cases v <;> first|rfl|exact absurd rfl (h.1 _)|exact absurd rfl (h.2 _)

theorem jM {k:Nat} {y:A} {ad:Option Addr} {c:Nat}:pL P w imm F k y (.slice ad 0 c) 0 [] [] Set.no [] where
 val:=⟨ad,c,rfl,.inl rfl⟩
 cells w' _:=by
  cases ad with
  |none=>simp[Builtin.firstCells]
  |some b=>simp[Builtin.firstCells,loadCells,loadCellsFrom]
 vals:=by simp[af]
 wide:=by simp
 len:=rfl
 one:=by simp
 sub _ z:=z.elim
 keys:=by simp

theorem va {k:Nat} {y:A} {b p n c:Nat} {rows:Rows} {S T:Set} {ks:List Key} (hk:k≠0) (hr:aq w imm none rows b p k S) (hn:rows.length=n) (hones:∀r∈rows,∀c∈r,fV c=true)
  (hplain:(∀r∈rows,∀c∈r,plain c=true)∨Set.le S T) (hb:imm b∨∃κ' g i m,y= .ref κ' g i m∧F κ' b) (hT:∀b,T b→∃x∈ks,F x b) (hks:∀x∈ks,∃g i m,y= .ref x g i m) :
  ∃us,pL P w imm F k y (.slice (some ⟨b,p,none⟩) n c) n rows us T ks:=by
 obtain⟨hc,hwide⟩:=hr.cells
 obtain⟨us,hl,hcell,hv⟩:=ai.vals _ _ _ hc
 have hlen:us.length=n * k:=by rw[hl,fL hwide,hn]
 have hall:rows.flatten.all fV=true:=by
  rw[qzN]
  intro x hx
  obtain⟨r,hr,hx⟩:=List.mem_flatten.1 hx
  exact hones r hr x hx
 refine⟨us,⟨⟨_,c,rfl,?_⟩,?_,?_,hwide,hn,af.one hall hv,hT,hks⟩⟩
 ·rcases yx n with h0|h0
  ·exact .inl h0
  ·refine .inr ⟨b,p,rfl,?_,hb⟩
   have hpos:0<n * k:=Nat.mul_pos h0 (Nat.pos_of_ne_zero hk)
   have hlast:=hcell (n * k-1) qom
   have hsome:∃u,us[n * k-1]? =some u:=⟨us[n * k-1],by simp[show n * k-1<us.length by omega]⟩
   obtain⟨u,hu⟩:=hsome
   rw[hu] at hlast
   unfold Room.holdsV World.shape?
   unfold World.cell? at hlast
   simp only at hlast⊢
   cases hh:w.heap[b]? with
   |none=>rw[hh] at hlast;simp at hlast
   |some ob=>
    rw[hh] at hlast
    cases ob with
    |cells cs e fr=>
     simp only at hlast⊢
     have:p+(n * k-1)<cs.size:=by
      rcases qzM (p+(n * k-1)) cs.size with h|h
      ·exact h
      ·rw[AP h] at hlast;cases hlast
     simp;omega
    |_=>simp at hlast
 ·intro w' hw'
  have hrun:=ga (P:=P) b p w' us 0 #[] (fun j hj=>by rw[show p+0+j=p+j by omega,cell?_same (w:=w) (w':=w') (by rw[hw'])];exact hcell j hj)
  simp only[Builtin.firstCells,loadCells]
  rw[←hlen]
  simpa using hrun
 ·rcases hplain with hp|hS
  ·refine(af.plain ?_ hv).mono (Set.no_le _)
   rw[qzN]
   intro x hx
   obtain⟨r,hr,hx⟩:=List.mem_flatten.1 hx
   exact hp r hr x hx
  ·exact hv.mono hS

theorem Ft (h:aD ρ σ a w imm Λ F) {k:Nat} (hk:k≠0) {y:A} {v:Value} (hy:CR w imm (some Λ) y v Set.no) {f:Rows→Pg} (hh:(tK (au Fn LW IN) k y f).holds σ K) :
  ∃n rows us,(f rows).holds σ K∧pL P w imm F k y v n rows us Set.no []:=by
 unfold tK at hh
 split at hh
 ·have:=bM hy;subst this
  exact⟨0,[],[],hh,jM⟩
 ·simp only[CR] at hy
  obtain⟨ad,rfl⟩:=hy
  exact⟨0,[],[],hh,jM⟩
 ·rename_i rows
  obtain⟨⟨hw,hones⟩,hh⟩:=hh
  simp only[CR] at hy
  obtain⟨ad,cap,rfl,hcap,hrows⟩:=hy
  rcases hrows with rfl|⟨b,p,k',rfl,hb,hR⟩
  ·exact⟨0,[],[],hh,jM⟩
  ·have hR':aq w imm none rows b p k Set.no:=by
    cases rows with
    |nil=>simp only[aq]
    |cons r rows=>
     have h1:=hw r (by simp)
     have h2:=hR
     simp only[aq] at h2
     obtain⟨_,_,h2,_⟩:=h2
     rw[←h1,h2];exact hR
   obtain⟨us,hs⟩:=va (P:=P) (F:=F) (y:=.tree rows) (n:=rows.length) (c:=cap) (T:=Set.no) (ks:=[]) hk hR' rfl hones (.inr (Set.le_refl _)) (.inl hb) (fun _ z=>z.elim) (by simp)
   exact⟨_,rows,us,hh,hs⟩
 ·rename_i κ g i n
  replace hh:=h.node hh
  obtain⟨nd,hnd,hN,hh⟩:=hh
  simp only[CR] at hy
  have key:∀{rows:Rows} {b base:Nat} {S:Set},(∀b' base' size',(Λ κ).loc= .at_ b' base' size'→b'=b∧base'=base)→(Λ κ).k=k→(Λ κ).gen=g→(Λ κ).loc≠ .gone→i+n≤rows.length→(∀r∈rows,∀c∈r,fV c=true)→
    (imm b∨F κ b)→((∀r∈rows,∀c∈r,plain c=true)∨Set.le S Set.no)→aq w imm none rows b base k S→∃us,pL P w imm F k (.ref κ g i n) v n ((rows.drop i).take n) us Set.no []:=by
   intro rows b base S hloc hkk hg hgone hin hones hb hplain hR
   rcases yx n with h0|h0
   ·obtain⟨ad,cap,e1,_⟩:=eB.len hy hg hgone
    subst h0
    rw[e1,vm]
    exact⟨[],jM⟩
   ·obtain⟨b',base',size',cap,e1,g1,g2,g3,e2⟩:=eB.at hy hg hgone h0
    obtain⟨rfl,rfl⟩:=hloc _ _ _ e1
    rw[e2,hkk]
    refine va hk (aq.take _ _ _ _ (aq.drop i _ _ hR)) (by simp;omega) (fun r hr=>hones r (vj (tn hr))) (hplain.imp (fun hp r hr=>hp r (vj (tn hr))) id) (hb.imp id (fun hF=>⟨κ,g,i,n,rfl,hF⟩)) (fun _ z=>z.elim) (by simp)
  cases nd <;> simp only[Pg.holds] at hh <;> (try exact hh.elim)
  ·rename_i g' k' rows
   split at hh
   ·rename_i hc
    obtain⟨rfl,rfl⟩:=hc
    obtain⟨⟨hin,hflat,hones⟩,hh⟩:=hh
    replace hin:i+n≤rows.length:=hin
    obtain⟨h1,h2,h3,h4⟩:=hN
    have:∃us,pL P w imm F k' (.ref κ g i n) v n ((rows.drop i).take n) us Set.no []:=by
     rcases h4 with⟨e,rfl⟩|⟨b,base,size,S',e,g1,g2,g3,g4,g5,g6⟩
     ·obtain⟨ad,cap,e1,_⟩:=eB.len hy h1 (by rw[e];simp)
      obtain rfl:n=0:=by simp at hin;omega
      rw[e1,vm]
      exact⟨[],jM⟩
     ·exact key (b:=b) (base:=base) (fun b' base' size' e'=>by rw[e] at e';cases e';exact⟨rfl,rfl⟩) h2 h1 (by rw[e];simp) hin hones (.inr g1) (.inl hflat) g6
    obtain⟨us,hs⟩:=this
    exact⟨n,_,us,hh,hs⟩
   ·exact hh.elim
  ·rename_i g' k' rows
   split at hh
   ·rename_i hc
    obtain⟨rfl,rfl⟩:=hc
    obtain⟨⟨hin,hones⟩,hh⟩:=hh
    replace hin:i+n≤rows.length:=hin
    obtain⟨h1,h2,h3,h4⟩:=hN
    have:∃us,pL P w imm F k' (.ref κ g i n) v n ((rows.drop i).take n) us Set.no []:=by
     rcases h4 with⟨e,rfl⟩|⟨b,base,size,e,g1,g6⟩
     ·obtain⟨ad,cap,e1,_⟩:=eB.len hy h1 (by rw[e];simp)
      obtain rfl:n=0:=by simp at hin;omega
      rw[e1,vm]
      exact⟨[],jM⟩
     ·exact key (b:=b) (base:=base) (fun b' base' size' e'=>by rw[e] at e';cases e';exact⟨rfl,rfl⟩) h2 h1 (by rw[e];simp) hin hones (.inl g1) (.inr (Set.le_refl _)) g6
    obtain⟨us,hs⟩:=this
    exact⟨n,_,us,hh,hs⟩
   ·exact hh.elim
 ·exact hh.elim

theorem vP (h:aD ρ σ a w imm Λ F) {k t:Nat} (hk:k≠0) {y:A} {v:Value} (hy:CR w imm (some Λ) y v Set.no) {f:List W→Rows→Pg} (hh:(wJ (au Fn LW IN) k t y f).holds σ K) :
  ∃n rows us ws ks T,(f ws rows).holds σ K∧ec Λ ks ws∧pL P w imm F k y v n rows us T ks:=by
 have plainly:(tK (au Fn LW IN) k y (f [])).holds σ K→∃n rows us ws ks T,(f ws rows).holds σ K∧ec Λ ks ws∧pL P w imm F k y v n rows us T ks:=fun hh=>by
  obtain⟨n,rows,us,h1,h2⟩:=Ft (P:=P) h hk hy hh
  exact⟨n,rows,us,[],[],_,h1,ec.nil Λ,h2⟩
 unfold wJ at hh
 split at hh
 ·rename_i κ g i n
  split at hh
  ·have hh':=h.node hh
   obtain⟨nd,hnd,hN,hh2⟩:=hh'
   cases nd with
   |arr g' k' rows=>
    simp only at hh2
    split at hh2
    ·rename_i hc
     obtain⟨rfl,rfl,rfl⟩:=hc
     obtain⟨⟨hn,hones⟩,hh2⟩:=hh2
     simp only[CR] at hy
     obtain⟨h1,h2,h3,h4⟩:=hN
     have hkill:ec Λ [κ] [.n κ (.dead g)]:=by
      have:=(ec.nil Λ).cons κ
      rw[h1] at this;exact this
     have:∃us,pL P w imm F k' (.ref κ g 0 n) v n rows us (F κ) [κ]:=by
      rcases h4 with⟨e,rfl⟩|⟨b,base,size,S',e,g1,g2,g3,g4,g5,g6⟩
      ·obtain⟨ad,cap,e1,_⟩:=eB.len hy h1 (by rw[e];simp)
       obtain rfl:n=0:=hn
       rw[e1]
       have s0:=jM (P:=P) (w:=w) (imm:=imm) (F:=F) (k:=k') (y:=.ref κ g 0 0) (ad:=ad) (c:=cap)
       exact⟨[],{ s0 with vals:=by simp[af],sub:=fun b hb=>⟨κ,by simp,hb⟩,keys:=fun x hx=>by simp at hx;exact⟨g,0,0,by rw[hx]⟩ }⟩
      ·have hsub:∀b,F κ b→∃x∈[κ],F x b:=fun b hb=>⟨κ,by simp,hb⟩
       have hkeys:∀x∈[κ],∃g' i m,A.ref κ g 0 n= .ref x g' i m:=fun x hx=>by simp at hx;exact⟨g,0,n,by rw[hx]⟩
       rcases yx n with h0|h0
       ·obtain⟨ad,cap,e1,_⟩:=eB.len hy h1 (by rw[e];simp)
        subst h0
        obtain rfl:rows=[]:=qzA hn.symm
        rw[e1]
        have s0:=jM (P:=P) (w:=w) (imm:=imm) (F:=F) (k:=k') (y:=.ref κ g 0 0) (ad:=ad) (c:=cap)
        exact⟨[],{ s0 with vals:=by simp[af],sub:=hsub,keys:=hkeys }⟩
       ·obtain⟨b',base',size',cap,e1,q1,q2,q3,e2⟩:=eB.at hy h1 (by rw[e];simp) h0
        rw[e] at e1
        cases e1
        rw[e2]
        exact va (F:=F) hk (by simpa using g6) hn.symm hones (.inr g3) (.inr ⟨κ,g,0,n,rfl,g1⟩) hsub hkeys
     obtain⟨us,hs⟩:=this
     exact⟨n,rows,us,_,_,_,hh2,hkill,hs⟩
    ·exact hh2.elim
   |_=>exact plainly hh2
  ·exact plainly hh
 ·exact plainly hh

/-- what is appended to: nothing, or a row of the frame's own -/
structure Gg (P:Program) (w:World) (imm:Set) (F:Key→Set) (k:Nat) (base:Option Addr) (n cap:Nat) (rows:Rows) (us:List Value) (T:Set) (ks:List Key):Prop where
 cells:∀w':World,w'.heap=w.heap→(Builtin.firstCells k n (.slice base n cap)).run P w'= .ok us.toArray w'
 vals:af w imm none rows.flatten us T
 wide:∀q∈rows,q.length=k
 len:rows.length=n
 lies:(base=none∧n=0∧cap=0∧rows=[])∨∃b p size κ,base=some ⟨b,p,none⟩∧κ∈ks∧F κ b∧Own w b size∧p+cap * k≤size∧p≤size∧¬T b∧aq w imm none rows b p k T∧n≤cap
 sub:∀b,T b→∃x∈ks,F x b

theorem aD.draw (h:aD ρ σ a w imm Λ F):aD ρ σ a w.drew imm Λ F:=
 h.step (σ':=σ) (w':=w.drew) (fun _=>rfl) (Set.le_refl _) (fun _ _=>rfl) (qzi _) (fun _ _ _=>rfl) (bF.refl Λ)
  (fun κ=>(h.nodes κ).stable (w:=w) (w':=w.drew) (Set.le_refl _) (fun _ _=>rfl) (fun _ _=>rfl) (bF.refl Λ)) h.dis h.fimm (fun κ _ hb=>.inl ⟨κ,hb⟩) (fun _ hb=>.inl hb) ⟨rfl,rfl,rfl,aO.same fun _ _=>rfl⟩ (fun κ=>(h.rs κ).stable (h.nodes κ) (fun _ _=>rfl) (fun _=>.inr rfl) rfl)

/-- a node made of what others owned, memory changed in their blocks alone -/
theorem aD.onto (h:aD ρ σ a w imm Λ F) {ks:List Key} {ws:List W} (hk:ec Λ ks ws) {κ0:Key} {g k:Nat} {rows:Rows} {i':KI} {w':World} {S:Set} (hS:∀b,S b→∃x∈ks,F x b) (hg:i'.gen=(lkN σ.heap κ0.1 κ0.2).gen+1)
  (hheap:∀b,(¬∃x∈ks,F x b)→w'.heap[b]? =w.heap[b]?) (hsz:w'.heap.size=w.heap.size) (hos:w'.os=w.os∧w'.output=w.output∧w'.tape=w.tape∧aO w w') (hN:∀Λ',NR w' imm Λ' i' (.arr g k rows) S) :
  ∃Λ' F',aD ρ ((σ.upd ws).upd1 (.n κ0 (.arr g k rows))) a w' imm Λ' F'∧Λ' κ0=i':=by
 obtain⟨hk1,hk2⟩:=hk σ
 have hle:bF Λ (up (cS Λ ks) κ0 i'):=by
  intro x
  by_cases ex:x=κ0
  ·subst ex;rw[az];have:=rn h x;exact⟨by omega,fun e=>by omega⟩
  ·rw[aN _ _ ex];exact lc Λ ks x
 have himm:∀b,imm b→w'.heap[b]? =w.heap[b]? :=fun b hb=>hheap b (fun⟨x,_,hF⟩=>h.fimm x b hF hb)
 refine⟨up (cS Λ ks) κ0 i',up (ee F ks) κ0 S,h.step hk1 (Set.le_refl _) himm qom (fun b _ hno=>hheap b (fun⟨x,_,hF⟩=>hno ⟨x,hF⟩)) hle ?_ ?_ ?_ ?_ (fun b hb=>.inl hb) hos (lE trivial fun x ex=>by
  rw[aN _ _ ex,hk2 x]
  by_cases hx:x∈ks
  ·rw[if_pos hx];trivial
  ·rw[if_neg hx,show cS Λ ks x=Λ x by simp[cS,hx]]
   exact(h.rs x).stable (h.nodes x) (fun b hb=>hheap b (fun⟨y,hy,hF⟩=>h.dis x y (fun e=>hx (e▸hy)) b hb hF)) (fun _=>.inr rfl) rfl),az _ _ _⟩
 ·intro x
  show NR _ _ _ _ (lkN ((κ0,HN.arr g k rows)::(σ.upd ws).heap) x.1 x.2) _
  rw[aP]
  by_cases ex:x=κ0
  ·subst ex;rw[if_pos rfl,az,az];exact hN _
  ·rw[if_neg ex,aN _ _ ex,aN _ _ ex,hk2 x]
   by_cases hx:x∈ks
   ·rw[if_pos hx]
    simp only[cS,if_pos hx]
    exact⟨rfl,rfl⟩
   ·rw[if_neg hx]
    have e1:ee F ks x=F x:=by simp[ee,hx]
    have e2:cS Λ ks x=Λ x:=by simp[cS,hx]
    rw[e1,e2]
    exact(h.nodes x).stable (Set.le_refl _) himm (fun b hb=>hheap b (fun⟨y,hy,hF⟩=>h.dis x y (fun e=>hx (e▸hy)) b hb hF)) hle
 ·intro x y hxy b hx hy
  have sub:∀z,ee F ks z b→F z b∧z∉ks:=fun z hz=>by
   simp only[ee] at hz
   split at hz
   ·exact hz.elim
   ·rename_i hn;exact⟨hz,hn⟩
  by_cases ex:x=κ0
  ·subst ex
   rw[az] at hx
   rw[aN _ _ (Ne.symm hxy)] at hy
   obtain⟨z,hz,hF⟩:=hS b hx
   exact h.dis z y (fun e=>(sub y hy).2 (e▸hz)) b hF (sub y hy).1
  ·rw[aN _ _ ex] at hx
   by_cases ey:y=κ0
   ·subst ey
    rw[az] at hy
    obtain⟨z,hz,hF⟩:=hS b hy
    exact h.dis z x (fun e=>(sub x hx).2 (e▸hz)) b hF (sub x hx).1
   ·rw[aN _ _ ey] at hy;exact h.dis x y hxy b (sub x hx).1 (sub y hy).1
 ·intro x b hx hb
  by_cases ex:x=κ0
  ·subst ex
   rw[az] at hx
   obtain⟨z,_,hF⟩:=hS b hx
   exact h.fimm z b hF hb
  ·rw[aN _ _ ex] at hx;exact h.fimm x b (fp F ks x b hx) hb
 ·intro x b hx
  by_cases ex:x=κ0
  ·subst ex
   rw[az] at hx
   obtain⟨z,_,hF⟩:=hS b hx
   exact .inl ⟨z,hF⟩
  ·rw[aN _ _ ex] at hx;exact .inl ⟨x,fp F ks x b hx⟩

theorem af.join {x:Option Lam}:∀{cs ds:List A} {vs us:List Value} {T1 T2 T:Set},af w imm x cs vs T1→af w imm x ds us T2→Set.le T1 T→Set.le T2 T→Set.dis T1 T2→af w imm x (cs++ds) (vs++us) T
 |[],ds,[],us,T1,T2,T,_,h2,_,l2,_=>by simpa using h2.mono l2
 |[],ds,_::_,us,T1,T2,T,h1,_,_,_,_=>by simp only[af] at h1
 |c::cs,ds,[],us,T1,T2,T,h1,_,_,_,_=>by simp only[af] at h1
 |c::cs,ds,v::vs,us,T1,T2,T,h1,h2,l1,l2,hd=>by
  simp only[af] at h1
  obtain⟨U1,U2,g1,g2,g3,g4,g5⟩:=h1
  simp only[qzH,af]
  exact⟨U1,fun b=>U2 b∨T2 b,g1,af.join g2 h2 (fun _ z=>.inl z) (fun _ z=>.inr z) (fun b hb hb2=>hd b (g4 b hb) hb2),Set.le_trans g3 l1,fun b hb=>hb.elim (fun z=>l1 b (g4 b z)) (l2 b),fun b hb hz=>hz.elim (g5 b hb) (hd b (g3 b hb))⟩

theorem yN {need:Nat} (h:256<need):∀(r c:Nat),c≤2 * need→Builtin.growBy need r c≤2 * need
 |0,c,hc=>hc
 |r+1,c,hc=>by
  simp only[Builtin.growBy]
  split
  ·exact hc
  ·exact yN h r _ qom
theorem wa {need old:Nat} (h:old<need):Builtin.nextslicecap need old≤2 * need:=by
 unfold Builtin.nextslicecap
 split
 ·omega
 ·split
  ·omega
  ·exact yN qom 4 old qom

theorem ur (h:aD ρ σ a w imm Λ F) (hd:∀t,o.dst=some t→t<ρ.n) {x y:Operand} {t s e e':TypeId} (ho:o.op= .call { callee:=.builtin .append,args:= #[x,y],argTypes:= #[t,s] })
  (et:P.underlying t=some (.slice e)) (es:P.underlying s=some (.slice e')) {i:TypeInfo} {z:Value} (hi:P.info? e=some i) (hz:i.zero=some z) {k:Nat} (hik:i.size=k) (_hk0:k≠0) (hby:i.bytes≠0) (hzs:z.cells.size=k)
  {base:Option Addr} {n cap n2:Nat} (hx:a.eval x= .slice base n cap) {rows1 rows2:Rows} {us1 us2:List Value} {T1 T2:Set} {ks1 ks2:List Key} {ws1 ws2:List W} {y':A}
  (hold:Gg P w imm F k base n cap rows1 us1 T1 ks1) (hsrc:pL P w imm F k y' (a.eval y) n2 rows2 us2 T2 ks2) (hk1:ec Λ ks1 ws1) (hk2:ec Λ ks2 ws2) (hap:∀κ∈ks1,∀g i m,y'≠ .ref κ g i m)
  (hroomy:(n+n2) * i.bytes≤140737488355328) {d:Nat} (hod:o.dst=some d) {g:Nat} (hg:g=(lkN σ.heap d 0).gen+1) (hK:K (ws1++ws2++[.n (d,0) (.arr g k (rows1++rows2)),.s d (.ref (d,0) g 0 (n+n2))])):bG P ρ σ K o a w Q:=by
 have hkk:=hk1.append hk2
 have hdisk:∀κ∈ks1,κ∉ks2:=fun κ h1 h2=>by obtain⟨g,i,m,e⟩:=hsrc.keys κ h2;exact hap κ h1 g i m e
 have hd12:Set.dis T1 T2:=fun b hb hb2=>by
  obtain⟨κ,h1,hF⟩:=hold.sub b hb
  obtain⟨κ2,h2,hF2⟩:=hsrc.sub b hb2
  exact h.dis κ κ2 (fun e=>hdisk κ h1 (e▸h2)) b hF hF2
 have hT:∀b,(T1 b∨T2 b)→∃κ∈ks1++ks2,F κ b:=fun b hb=>by
  rcases hb with hb|hb
  ·obtain⟨κ,h1,hF⟩:=hold.sub b hb;exact⟨κ,qzX _ h1,hF⟩
  ·obtain⟨κ,h1,hF⟩:=hsrc.sub b hb;exact⟨κ,ya _ h1,hF⟩
 have hwide:∀q∈rows1++rows2,q.length=k:=fun q hq=>by rcases List.mem_append.1 hq with hq|hq;exact hold.wide q hq;exact hsrc.wide q hq
 obtain⟨ad2,c2,ev2,hlie2⟩:=hsrc.val
 have hu2:us2.length=n2 * k:=by rw[hsrc.vals.length,fL hsrc.wide,hsrc.len]
 have hu1:us1.length=n * k:=by rw[hold.vals.length,fL hold.wide,hold.len]
 have hS:Src P i.size s (a.eval y) n2 us2 w:=by
  rw[hik]
  exact⟨.inl ⟨e',es⟩,fun w'=>by rw[ev2];simp[Builtin.lenOf],hsrc.cells w rfl,hsrc.cells w.drew rfl,hu2,fun u hu=>DP (hsrc.one u hu)⟩
 have hex:execOp a.eval o=(Builtin.append_ #[t,s] o.type #[.slice base n cap,a.eval y]).bind (fun v=>Sem.pure (Next.value v)):=by
  unfold execOp
  simp only[ho,resolve,invoke,builtin,List.map_toArray,qzG,pC,hx]
  rfl
 by_cases hroom:n+n2≤cap
 ·-- there is room
  rcases hold.lies with⟨rfl,rfl,rfl,rfl⟩|⟨b,p,size,κ,rfl,hκ,hF,hown,hcap,hp,hTb,hR,hn⟩
  ·obtain rfl:n2=0:=by omega
   obtain rfl:us2=[]:=qzA qom
   obtain rfl:rows2=[]:=qzA hsrc.len
   obtain⟨Λ',F',hr,hΛ⟩:=h.onto (κ0:=(d,0)) (g:=g) (k:=k) (rows:=[]) (i':=⟨g,.nil,k,0⟩) (w':=w) (S:=Set.no) hkk (fun _ z=>z.elim) hg (fun _ _=>rfl) rfl ⟨rfl,rfl,rfl,aO.refl w⟩ (fun _=>⟨rfl,rfl,rfl,.inl ⟨rfl,rfl⟩⟩)
   refine .inl ?_
   have hrun:(Builtin.append_ #[t,s] o.type #[.slice none 0 0,a.eval y]).run P w= .ok (.slice none 0 0) w:=by
    simp[Builtin.append_,run_underlying et,run_underlying es,sizeOf,typeInfo,hi,hS.len,hS.cells]
   simp only[Oper.wp,hex]
   rw[show Sem.run P ((Builtin.append_ #[t,s] o.type #[.slice none 0 0,a.eval y]).bind (fun v=>Sem.pure (Next.value v))) w= .ok (.value (.slice none 0 0)) w by
    rw[Sem.run_bind' P];rw[hrun];rfl]
   simp only[Oper.upon]
   refine⟨_,hK,imm,Λ',F',?_⟩
   have:=hr.put (d:=some d) (x:=.ref (d,0) g 0 0) (v:=.slice none 0 0) (fun t ht=>by cases ht;exact hd d hod) (by
    simp only[CR,hΛ,eB]
    exact⟨qzi _,fun _=>by simp,_,_,_,rfl⟩)
   rw[hod,bo]
   exact this
  ·have hmul:(n+n2) * k≤cap * k:=qzp k hroom
   rw[qzJ] at hmul
   have hst:=me (P:=P) (p+n * k) us2 0 hown qom hsrc.one
   simp only[Nat.add_zero] at hst
   have hbimm:¬imm b:=h.fimm κ b hF
   have hTb2:¬T2 b:=fun hb=>by
    obtain⟨κ2,h2,hF2⟩:=hsrc.sub b hb
    exact h.dis κ κ2 (fun e=>hdisk κ hκ (e▸h2)) b hF hF2
   have hheap:∀q,q≠b→(setRow w b (p+n * k) us2).heap[q]? =w.heap[q]? :=fun q hq=>setRow_heap b us2 w _ q hq
   have hN:∀Λ',NR (setRow w b (p+n * k) us2) imm Λ' ⟨g,.at_ b p size,k,(rows1++rows2).length⟩ (.arr g k (rows1++rows2)) (fun q=>q=b∨T1 q∨T2 q):=by
    intro Λ'
    refine⟨rfl,rfl,rfl,.inr ⟨b,p,size,fun q=>T1 q∨T2 q,rfl,.inl rfl,fun hb=>hb.elim hTb hTb2,fun q hq=>.inr hq,Own.setRow us2 hown _,?_,?_⟩⟩
    ·rw[qzg,hold.len,hsrc.len,qzJ];omega
    ·refine aq.of_cells hwide ?_
     rw[List.flatten_append]
     refine ai.join (S1:=T1) (S2:=T2) ?_ ?_ (fun q hq=>.inl hq) (fun q hq=>.inr hq) hd12
     ·refine(aq.cells (aq.far hheap hbimm rows1 p T1 hTb (fun q h1 h2=>?_) hR)).1
      rw[fv us2 hown _ q qom,if_neg]
      rw[hold.len] at h2;omega
     ·rw[fL hold.wide,hold.len]
      refine ai.of_vals (vs:=us2) ?_ (fun j hj=>?_)
      ·exact af.stable (Set.le_refl _) (fun q hq=>hheap q (fun e=>hbimm (e▸hq))) none none _ _ _ _ trivial (Set.le_refl _) (fun q hq=>hheap q (fun e=>hTb2 (e▸hq))) hsrc.vals
      ·rw[fv us2 hown _ _ qom,if_pos qom]
       congr 1;omega
   obtain⟨Λ',F',hr,hΛ⟩:=h.onto (κ0:=(d,0)) (g:=g) (k:=k) (rows:=rows1++rows2) (i':=⟨g,.at_ b p size,k,(rows1++rows2).length⟩) (w':=setRow w b (p+n * k) us2) (S:=fun q=>q=b∨T1 q∨T2 q) hkk
    (fun q hq=>by rcases hq with rfl|hq;exact⟨κ,qzX _ hκ,hF⟩;exact hT q hq) hg
    (fun q hq=>hheap q (fun e=>hq ⟨κ,qzX _ hκ,e▸hF⟩)) (setRow_size b us2 w _) ⟨(setRow_os b us2 w _).1,(setRow_os b us2 w _).2.1,(setRow_os b us2 w _).2.2,aO.setRow b us2 w _⟩ hN
   refine .inl ?_
   have hrun:(Builtin.append_ #[t,s] o.type #[.slice (some ⟨b,p,none⟩) n cap,a.eval y]).run P w= .ok (.slice (some ⟨b,p,none⟩) (n+n2) cap) (setRow w b (p+n * k) us2):=by
    simp[Builtin.append_,run_underlying et,run_underlying es,sizeOf,typeInfo,hi,hS.len,hsrc.cells w rfl,hroom,Addr.add_lit,hik,hst]
   simp only[Oper.wp,hex]
   rw[show Sem.run P ((Builtin.append_ #[t,s] o.type #[.slice (some ⟨b,p,none⟩) n cap,a.eval y]).bind (fun v=>Sem.pure (Next.value v))) w= .ok (.value (.slice (some ⟨b,p,none⟩) (n+n2) cap)) (setRow w b (p+n * k) us2) by
    rw[Sem.run_bind' P];rw[hrun];rfl]
   simp only[Oper.upon]
   refine⟨_,hK,imm,Λ',F',?_⟩
   have:=hr.put (d:=some d) (x:=.ref (d,0) g 0 (n+n2)) (v:=.slice (some ⟨b,p,none⟩) (n+n2) cap) (fun t ht=>by cases ht;exact hd d hod) (by
    simp only[CR,hΛ,eB]
    exact⟨qzi _,fun _=>⟨p,cap,rfl,hroom,by simp[hold.len,hsrc.len],hp,.inr ⟨by simp,hcap⟩⟩,_,_,_,rfl⟩)
   rw[hod,bo]
   exact this
 ·-- there is none
  have hg2:cap<n+n2:=by omega
  have hfit:Builtin.nextslicecap (n+n2) cap * i.bytes≤281474976710656:=by
   have h1:=qzp i.bytes (wa hg2)
   rw[Nat.mul_assoc] at h1
   omega
  ·have hnb:(n+n2) * i.bytes≤281474976710656:=qzz (qzp _ (le_nextslicecap hg2)) hfit
   have h63:((n+n2:Nat):Int)≤9223372036854775807:=by
    have:n+n2≤(n+n2) * i.bytes:=Nat.le_mul_of_pos_right _ (Nat.pos_of_ne_zero hby)
    omega
   have hrun:=run_append_grow_src (P:=P) w t s o.type e i z et hi hz base n cap us1 (by rw[hik];exact hold.cells w.drew rfl) (a.eval y) n2 us2 hS hg2 h63 hfit
   have hge:=grownCap_ge w (n+n2) cap e
   generalize hgc:grownCap w (n+n2) cap e=gc at hrun hge
   obtain⟨t1,t2,t3⟩:=FR h.draw hT
   have hr:=h.draw.kills hkk
   refine .inl (vH (w:=w.drew) (w1:=w) (σ:=σ.upd (ws1++ws2)) (σ0:=σ) (ws:=ws1++ws2) (e:=e) (n:=n+n2) (cap:=gc) (k:=k) (zs:=us1++us2) (rows:=rows1++rows2) (T:=fun b=>T1 b∨T2 b)
    (c:=(us1++us2).toArray++Builtin.zeroCells z.cells (gc-(n+n2))) hr hd hod t1 t2 t3 (fun j hj=>?_) ?_ hwide (by simp[hold.len,hsrc.len]) hge ?_ (by rw[hkk.gen h (d,0)];exact hg) ?_ (fun _ _=>hK) rfl)
   ·rw[Array.getElem?_append_left (by simpa using hj)];simp
   ·rw[List.flatten_append]
    exact af.join (af.stable (w:=w) (w':=w.drew) (Set.le_refl _) (fun _ _=>rfl) none none _ _ _ _ trivial (Set.le_refl _) (fun _ _=>rfl) hold.vals) (af.stable (w:=w) (w':=w.drew) (Set.le_refl _) (fun _ _=>rfl) none none _ _ _ _ trivial (Set.le_refl _) (fun _ _=>rfl) hsrc.vals) (fun _ z=>.inl z) (fun _ z=>.inr z) hd12
   ·have hmul:gc * k=(n+n2) * k+(gc-(n+n2)) * k:=by rw[←qzJ];congr 1;omega
    simp only[Array.size_append,List.size_toArray,qzg,hu1,hu2,Builtin.zeroCells,Array.size_map,Array.size_range,hzs]
    rw[hmul,qzJ]
    exact qzi _
   ·rw[hex,Sem.run_bind' P,hrun]
    rfl

theorem Bw (hE:EOk P E) (h:aD ρ σ a w imm Λ F) (hd:∀t,o.dst=some t→t<ρ.n) {c:Call} (ho:o.op= .call c) (hb:c.callee= .builtin .append) {x y:Operand} {t s:Nat} (hx:c.args.toList=[x,y]) (ht:c.argTypes.toList=[t,s])
  (hs:iz (E.info s).td=true) (hh:(opd x fun a=>opd y fun b=>uQ E (au Fn LW IN) o.dst t (Hd y) a b).holds σ K):bG P ρ σ K o a w Q:=by
 have hc:c={ callee:=.builtin .append,args:= #[x,y],argTypes:= #[t,s] }:=by
  cases c with
  |mk ca ar at_=>
   simp only at hb hx ht
   subst hb
   congr 1 <;> exact Array.ext' (by simpa)
 subst hc
 have hes:∃e',P.underlying s=some (.slice e'):=by
  obtain⟨i,d,z,_,_,_,hd',htd,_⟩:=hE s (.inr (by cases h:(E.info s).td <;> rw[h] at hs <;> simp[iz] at hs;rfl))
  cases hq:(E.info s).td <;> rw[hq] at hs <;> simp[iz] at hs
  rw[hq] at htd
  cases d <;> simp only[ez] at htd
  exact⟨_,hd'⟩
 obtain⟨e',hes⟩:=hes
 obtain⟨x',y',hxv,hyv,hk⟩:=h.opd2 hh
 clear hh
 unfold uQ at hk
 split at hk
 ·rename_i e het
  split at hk
  ·exact hk.elim
  rename_i hz
  obtain⟨d,hod,hk'⟩:=bS hk
  clear hk
  obtain⟨i,td,z,_,_,_,hd',htd,_⟩:=hE t (.inr (by rw[het];rfl))
  rw[het] at htd
  cases td <;> simp only[ez] at htd
  rename_i el
  obtain rfl:e=el:=htd.symm
  have hz0:(E.info e).size≠0:=fun h0=>hz (.inl h0)
  obtain⟨i',td',z',hi',hsz',hby,_,_,hz1,hz2,hz3⟩:=hE e (.inl hz0)
  have hzsz:z'.cells.size=(E.info e).size:=by rw[←hz3,hz2];simp
  have hby0:i'.bytes≠0:=by rw[hby];exact fun h0=>hz (.inr h0)
  split at hk'
  ·-- onto nothing
   have hx0:a.eval x= .slice none 0 0:=bM hxv
   obtain⟨n2,rows2,us2,ws2,ks2,T2,hK,hkill,hsrc⟩:=vP (P:=P) h hz0 hyv hk'
   have hold:Gg P w imm F (E.info e).size none 0 0 [] [] Set.no []:=
    { cells:=fun w' _=>by simp[Builtin.firstCells],vals:=by simp[af],wide:=by simp,len:=rfl,lies:=.inl ⟨rfl,rfl,rfl,rfl⟩,sub:=fun _ z=>z.elim }
   obtain⟨hroom,hK⟩:=hK
   refine ur h hd ho hd' hes hi' hz1 hsz' hz0 hby0 hzsz hx0 hold hsrc (ec.nil Λ) hkill (by simp) (by rw[qP,hby,←hsrc.len];exact hroom) hod rfl ?_
   rw[←hsrc.len,qP]
   exact hK
  ·rename_i κ g j n
   replace hk':=h.node hk'
   obtain⟨nd,hnd,hN,hk2⟩:=hk'
   split at hk2
   ·rename_i g' k rows
    split at hk2
    ·rename_i hc
     obtain⟨rfl,rfl,rfl,hiso,_⟩:=hc
     obtain⟨n2,rows2,us2,ws2,ks2,T2,hK,hkill,hsrc⟩:=vP (P:=P) h hz0 hyv hk2
     obtain⟨⟨hn,hroom⟩,hK⟩:=hK
     simp only[CR] at hxv
     obtain⟨h1,h2,h3,h4⟩:=hN
     have hgone:(Λ κ).loc≠ .gone:=by rcases h4 with⟨e,_⟩|⟨_,_,_,_,e,_⟩ <;> rw[e] <;> simp
     have hk1:ec Λ [κ] [.n κ (.dead g)]:=by
      have:=(ec.nil Λ).cons κ
      rw[h1] at this;exact this
     have hap:∀κ'∈[κ],∀g i m,y'≠ .ref κ' g i m:=by
      rintro κ' hκ' g i m rfl
      simp at hκ';subst hκ'
      simp only[C2] at hiso
      have:=(nL κ' [κ']).2 (by simp)
      rw[this] at hiso;cases hiso
     have fin:∀{base:Option Addr} {cap:Nat} {us1:List Value} {T1:Set},a.eval x= .slice base n cap→Gg P w imm F (E.info e).size base n cap (rows.take n) us1 T1 [κ]→bG P ρ σ K o a w Q:=by
      intro base cap us1 T1 hx0 hold
      refine ur h hd ho hd' hes hi' hz1 hsz' hz0 hby0 hzsz hx0 hold hsrc hk1 hkill hap (by rw[hby,←hsrc.len];exact hroom) hod rfl ?_
      have e1:(au Fn LW IN).app ((au Fn LW IN).part rows 0 n) rows2=rows.take n++rows2:=by simp[au]
      rw[e1] at hK
      rw[←hsrc.len]
      exact hK
     have h5:=hxv.2.1 h1.symm
     rcases h4 with⟨e1,rfl⟩|⟨b,base,size,S',e1,g1,g2,g3,g4,g5,g6⟩
     ·rw[e1] at h5
      obtain⟨_,rfl,hx0⟩:=h5
      exact fin (us1:=[]) (T1:=Set.no) hx0 { cells:=fun w' _=>by simp[Builtin.firstCells],vals:=by simp[af],wide:=by simp,len:=rfl,lies:=.inl ⟨rfl,rfl,rfl,rfl⟩,sub:=fun _ z=>z.elim }
     ·rw[e1] at h5
      obtain⟨p,cap,hx0,i1,i2,i3,i4⟩:=h5
      have hR0:aq w imm none (rows.take n) b base (E.info e).size S':=aq.take n rows base S' g6
      have hR:aq w imm none (rows.take n) b p (E.info e).size S':=by
       rcases yx n with h0|h0
       ·subst h0;simp[aq]
       ·rcases i4 with i4|⟨i4,_⟩
        ·omega
        ·rw[i4];simpa using hR0
      obtain⟨hc,hwide⟩:=hR.cells
      obtain⟨us1,hl,hcell,hv⟩:=ai.vals _ _ _ hc
      have hlen:(rows.take n).length=n:=by simp;omega
      refine fin (us1:=us1) (T1:=S') hx0 { cells:=fun w' hw'=>?_,vals:=hv,wide:=hwide,len:=hlen,lies:=.inr ⟨b,p,size,κ,rfl,by simp,g1,g4,?_,i3,g2,hR,i1⟩,sub:=fun q hq=>⟨κ,by simp,g3 q hq⟩ }
      ·have hrun:=ga (P:=P) b p w' us1 0 #[] (fun j hj=>by rw[show p+0+j=p+j by omega,cell?_same (w:=w) (w':=w') (by rw[hw'])];exact hcell j hj)
       simp only[Builtin.firstCells,loadCells]
       rw[show n * (E.info e).size=us1.length by rw[hl,fL hwide,hlen]]
       simpa using hrun
      ·rcases i4 with rfl|⟨_,i4⟩
       ·simpa using i3
       ·rw[←h2];exact i4
    ·exact hk2.elim
   ·exact hk2.elim
  ·exact hk'.elim
 ·exact hk.elim
end
end Go.Vm
/- What is handed on in a call: taken or frozen. -/
namespace Go.Vm
section
variable {P:Program} {E:TE} {Fn:FuncId→List A→List A→A→Prop} {LW:Code→(Ex→St→Prop)→St→Prop} {IN:InT} {w:World}

theorem ge:∀rows:Rows,(aA rows).length=rows.length
 |[]=>rfl
 |r::rs=>by simp[aA,ge rs]
theorem ut:∀cs:List A,(bv cs).length=cs.length
 |[]=>rfl
 |r::rs=>by simp[bv,ut rs]
mutual
theorem CR.freeze {imm imm':Set} (hi:Set.le imm imm'):∀(a:A) (v:Value) (S:Set),CR w imm none a v S→Set.le S imm'→CR w imm' none (fz a) v Set.no
 | .lit _,v,S,h,_=>by simp only[fz,CR] at h⊢;exact h
 | .emp,v,S,h,_=>by simp only[fz,CR] at h⊢;exact h
 | .tree rows,v,S,h,_=>by
  simp only[fz]
  exact CR.stable hi (fun _ _=>rfl) none none _ _ _ _ trivial (Set.le_refl _) (fun _ _=>rfl) (by simp only[CR] at h⊢;exact h)
 | .inl k rows,v,S,h,hS=>by
  simp only[fz,CR] at h⊢
  obtain⟨a,cap,e,h⟩:=h
  rcases h with⟨rfl,rfl,rfl⟩|⟨b,o,size,S',rfl,h1,h2,h3,h4,h5,h6,h7,h8⟩
  ·exact⟨none,0,e,qzi _,.inl rfl⟩
  ·refine⟨_,cap,by rw[ge];exact e,by rw[ge];exact h7,.inr ⟨b,o,k,rfl,hS b h1,aq.freeze hi rows b o k S' h8 (Set.le_trans h3 hS)⟩⟩
 | .obox _,v,S,_,_=>by simp only[fz,CR]
 | .optr _ _ _,v,S,_,_=>by simp only[fz,CR]
 | .ref ..,v,S,h,_=>by simp only[CR] at h
 | .mptr ..,v,S,h,_=>by simp only[CR] at h
 | .iptr r o,v,S,h,_=>by
  simp only[fz]
  exact CR.stable hi (fun _ _=>rfl) none none _ _ _ _ trivial (Set.le_refl _) (fun _ _=>rfl) (by simp only[CR] at h⊢;exact h)
 | .agg cs,v,S,h,hS=>by
  simp only[fz,CR] at h⊢
  obtain⟨vs,e,hr⟩:=h
  exact⟨vs,e,af.freeze hi cs vs S hr hS⟩
 | .tup cs,v,S,h,hS=>by
  simp only[fz,CR] at h⊢
  obtain⟨vs,e,hr⟩:=h
  exact⟨vs,e,af.freeze hi cs vs S hr hS⟩
 | .clo f cs,v,S,h,_=>by
  simp only[fz]
  exact CR.stable hi (fun _ _=>rfl) none none _ _ _ _ trivial (Set.le_refl _) (fun _ _=>rfl) (by simp only[CR] at h⊢;exact h)
 | .hole,v,S,_,_=>by simp only[fz,CR]
theorem af.freeze {imm imm':Set} (hi:Set.le imm imm'):∀(cs:List A) (vs:List Value) (S:Set),af w imm none cs vs S→Set.le S imm'→af w imm' none (bv cs) vs Set.no
 |[],[],_,_,_=>by simp only[bv,af]
 |[],_::_,_,h,_=>by simp only[af] at h
 |_::_,[],_,h,_=>by simp only[af] at h
 |c::cs,v::vs,S,h,hS=>by
  simp only[bv,af] at h⊢
  obtain⟨S1,S2,h1,h2,h3,h4,_⟩:=h
  exact⟨Set.no,Set.no,CR.freeze hi c v S1 h1 (Set.le_trans h3 hS),af.freeze hi cs vs S2 h2 (Set.le_trans h4 hS),Set.le_refl _,Set.le_refl _,Set.no_dis _⟩
theorem ai.freeze {imm imm':Set} (hi:Set.le imm imm'):∀(cs:List A) (b o:Nat) (S:Set),ai w imm none cs b o S→Set.le S imm'→ai w imm' none (bv cs) b o Set.no
 |[],_,_,_,_,_=>by simp only[bv,ai]
 |c::cs,b,o,S,h,hS=>by
  simp only[bv,ai] at h⊢
  obtain⟨v,S1,S2,h0,h1,h2,h3,h4,_⟩:=h
  exact⟨v,Set.no,Set.no,h0,CR.freeze hi c v S1 h1 (Set.le_trans h3 hS),ai.freeze hi cs b (o+1) S2 h2 (Set.le_trans h4 hS),Set.le_refl _,Set.le_refl _,Set.no_dis _⟩
theorem aq.freeze {imm imm':Set} (hi:Set.le imm imm'):∀(rs:Rows) (b o k:Nat) (S:Set),aq w imm none rs b o k S→Set.le S imm'→aq w imm' none (aA rs) b o k Set.no
 |[],_,_,_,_,_,_=>by simp only[aA,aq]
 |r::rs,b,o,k,S,h,hS=>by
  simp only[aA,aq] at h⊢
  obtain⟨S1,S2,h0,h1,h2,h3,h4,_⟩:=h
  exact⟨Set.no,Set.no,by rw[ut];exact h0,ai.freeze hi r b o S1 h1 (Set.le_trans h3 hS),aq.freeze hi rs b (o+k) k S2 h2 (Set.le_trans h4 hS),Set.le_refl _,Set.le_refl _,Set.no_dis _⟩
end

/-- nodes on the way through a call, as they were known before it: dead, or what they are -/
structure fh (pk:Nat→Nat→Nat→Prop) (σ:St) (Λ:Lam) (Pool:Set) (σ1:St) (w:World) (imm:Set) (F:Key→Set):Prop where
 slots:∀t,lkS σ1.slots t=lkS σ.slots t
 nodes:∀κ:Key,lkN σ1.heap κ.1 κ.2= .dead (Λ κ).gen∨NR w imm Λ (Λ κ) (lkN σ1.heap κ.1 κ.2) (F κ)
 dis:∀κ κ',κ≠κ'→Set.dis (F κ) (F κ')
 fimm:∀κ,Set.dis (F κ) imm
 pool:∀κ b,F κ b→Pool b
 rs:∀κ:Key,RSp pk (Λ κ) (lkN σ1.heap κ.1 κ.2)
/-- what is in no node's hand -/
structure cY (F:Key→Set) (imm Pool:Set) (S:Set):Prop where
 dis:∀κ,Set.dis S (F κ)
 imm:Set.dis S imm
 pool:Set.le S Pool
theorem cY.no {F:Key→Set} {imm Pool:Set}:cY F imm Pool Set.no:=⟨fun _=>Set.no_dis _,Set.no_dis _,Set.no_le _⟩
theorem cY.le {F:Key→Set} {imm Pool S T:Set} (h:cY F imm Pool S) (hT:Set.le T S):cY F imm Pool T:=
 ⟨fun κ=>Set.dis_le (h.dis κ) hT (Set.le_refl _),Set.dis_le h.imm hT (Set.le_refl _),Set.le_trans hT h.pool⟩

/-- the operands that are lent, and what they were known to be -/
def bE (pk:Nat→Nat→Nat→Prop) (w:World) (Λ:Lam):List A→List A→Prop
 | .ref κ g i n::as,.inl k _::ds=>((Λ κ).gen=g∧(Λ κ).k=k∧(Λ κ).n=n∧i=0∧(Λ κ).loc≠ .gone∧∀b base size,(Λ κ).loc= .at_ b base size→Own w b size∧base+(Λ κ).n * (Λ κ).k≤size)∧bE pk w Λ as ds
 | .mptr κ g i off::as,.obox cells::ds=>((Λ κ).gen=g∧(Λ κ).k=cells.length∧(Λ κ).n=1∧i=0∧off=0∧(Λ κ).loc≠ .gone∧∀b base size,(Λ κ).loc= .at_ b base size→Own w b size∧base+(Λ κ).n * (Λ κ).k≤size∧pk b base cells.length)∧bE pk w Λ as ds
 | .mptr κ g i off::as,.optr k rows j::ds=>((Λ κ).gen=g∧(Λ κ).k=k∧(Λ κ).n=rows.length∧j=i∧off=0∧(Λ κ).loc≠ .gone∧∀b base size,(Λ κ).loc= .at_ b base size→Own w b size∧base+(Λ κ).n * (Λ κ).k≤size)∧bE pk w Λ as ds
 | .agg cs::as,.agg es::ds=>bE pk w Λ cs es∧bE pk w Λ as ds
 | .tup cs::as,.tup es::ds=>bE pk w Λ cs es∧bE pk w Λ as ds
 |_::_,.obox _::_=>False
 |_::_,.agg _::_=>False
 |_::_,.tup _::_=>False
 |_::as,_::ds=>bE pk w Λ as ds
 |_,_=>True

variable {pk:Nat→Nat→Nat→Prop} {σ σ1:St} {Λ:Lam} {Pool imm imm1:Set} {F1 F:Key→Set}

theorem fh.wider (h:fh pk σ Λ Pool σ1 w imm1 F1) {S imm2:Set} (hS:cY F1 imm1 Pool S) (h2:∀b,imm2 b↔imm1 b∨S b):fh pk σ Λ Pool σ1 w imm2 F1 where
 slots:=h.slots
 nodes κ:=(h.nodes κ).imp id fun hN=>NR.stable (fun b hb=>(h2 b).2 (.inl hb)) (fun _ _=>rfl) (fun _ _=>rfl) (bF.refl Λ) hN
 dis:=h.dis
 fimm κ b hb hi:=by
  rcases (h2 b).1 hi with h'|h'
  ·exact h.fimm κ b hb h'
  ·exact hS.dis κ b h' hb
 pool:=h.pool
 rs:=h.rs
/-- one node is taken out of the nodes' hands -/
theorem fh.kill (h:fh pk σ Λ Pool σ1 w imm1 F1) (κ:Key) {g:Nat} (hg:(Λ κ).gen=g):fh pk σ Λ Pool (σ1.upd [.n κ (.dead g)]) w imm1 (up F1 κ Set.no)∧cY (up F1 κ Set.no) imm1 Pool (F1 κ):=by
 refine⟨⟨h.slots,fun x=>?_,fun x y hxy=>?_,fun x=>?_,fun x b hb=>?_,lE trivial fun x _=>h.rs x⟩,⟨fun x=>?_,h.fimm κ,h.pool κ⟩⟩
 ·show lkN ((κ,HN.dead g)::σ1.heap) x.1 x.2=_∨NR _ _ _ _ (lkN ((κ,HN.dead g)::σ1.heap) x.1 x.2) _
  rw[aP]
  by_cases e:x=κ
  ·subst e;rw[if_pos rfl,hg];exact .inl rfl
  ·rw[if_neg e,aN _ _ e];exact h.nodes x
 ·by_cases e:x=κ
  ·subst e;rw[az];exact Set.no_dis _
  ·rw[aN _ _ e]
   by_cases e':y=κ
   ·subst e';rw[az];exact fun _ _ z=>z
   ·rw[aN _ _ e'];exact h.dis x y hxy
 ·by_cases e:x=κ
  ·subst e;rw[az];exact Set.no_dis _
  ·rw[aN _ _ e];exact h.fimm x
 ·by_cases e:x=κ
  ·subst e;rw[az] at hb;exact hb.elim
  ·rw[aN _ _ e] at hb;exact h.pool x b hb
 ·by_cases e:x=κ
  ·subst e;rw[az];exact fun _ _ z=>z
  ·rw[aN _ _ e];exact h.dis κ x (fun z=>e z.symm)
/-- a node is known anew -/
theorem fh.set (h:fh pk σ Λ Pool σ1 w imm1 F1) (κ:Key) {n:HN} {S:Set} (hS:cY (up F1 κ Set.no) imm1 Pool S) (hN:NR w imm1 Λ (Λ κ) n S) (hRS:RSp pk (Λ κ) n):fh pk σ Λ Pool (σ1.upd [.n κ n]) w imm1 (up F1 κ S):=by
 refine⟨h.slots,fun x=>?_,fun x y hxy=>?_,fun x=>?_,fun x b hb=>?_,lE hRS fun x _=>h.rs x⟩
 ·show lkN ((κ,n)::σ1.heap) x.1 x.2=_∨NR _ _ _ _ (lkN ((κ,n)::σ1.heap) x.1 x.2) _
  rw[aP]
  by_cases e:x=κ
  ·subst e;rw[if_pos rfl,az];exact .inr hN
  ·rw[if_neg e,aN _ _ e];exact h.nodes x
 ·have key:∀y,y≠κ→Set.dis S (F1 y):=fun y e=>by have:=hS.dis y;rwa [aN _ _ e] at this
  by_cases e:x=κ
  ·subst e
   rw[az,aN _ _ (fun z=>hxy z.symm)]
   exact key y (fun z=>hxy z.symm)
  ·rw[aN _ _ e]
   by_cases e':y=κ
   ·subst e';rw[az];exact fun b h1 h2=>key x e b h2 h1
   ·rw[aN _ _ e'];exact h.dis x y hxy
 ·by_cases e:x=κ
  ·subst e;rw[az];exact hS.imm
  ·rw[aN _ _ e];exact h.fimm x
 ·by_cases e:x=κ
  ·subst e;rw[az] at hb;exact hS.pool b hb
  ·rw[aN _ _ e] at hb;exact h.pool x b hb

/-- a stretch of a frozen row -/
theorem zl {i:KI} {g j n:Nat} {u:Value} {rows:Rows} {b base size:Nat} (hr:eB i g j n u) (hg:i.gen=g) (hl:i.loc= .at_ b base size) (hn:j+n≤rows.length) (hb:imm b) (hR:aq w imm none rows b base i.k Set.no) :
  CR w imm none (.tree ((rows.drop j).take n)) u Set.no:=by
 have h3:=hr.2.1 hg.symm
 rw[hl] at h3
 obtain⟨o,cap,rfl,h1,h2,h4,h5⟩:=h3
 simp only[CR]
 have hlen:((rows.drop j).take n).length=n:=by simp;omega
 refine⟨_,cap,by rw[hlen],by rw[hlen];exact h1,?_⟩
 rcases yx n with h0|h0
 ·subst h0;left;simp
 ·right
  rcases h5 with h5|⟨h5,_⟩
  ·omega
  ·exact⟨b,o,i.k,rfl,hb,by rw[h5];exact aq.take n _ _ _ (aq.drop j rows base hR)⟩
theorem B4 {i:KI} {g j n:Nat} {u:Value} (hr:eB i g j n u) (hg:i.gen=g) (hl:i.loc= .nil) (rows:Rows):CR w imm none (.tree ((rows.drop j).take n)) u Set.no:=by
 have h3:=hr.2.1 hg.symm
 rw[hl] at h3
 obtain⟨_,rfl,rfl⟩:=h3
 simp only[CR]
 exact⟨none,0,by simp,by simp,.inl (by simp)⟩

def Out (pk:Nat→Nat→Nat→Prop) (σ:St) (Λ:Lam) (Pool:Set) (w:World) (σ1:St) (imm1:Set) (F1:Key→Set) (S0:Set) (us:List Value) (xs:List A) (m:Mode) (f:List A→Pg) (K:List W→Prop):Prop:=
 ∃ws ds imm2 F2 S,(f ds).holds (σ1.upd ws) (fun ws2=>K (ws++ws2))∧fh pk σ Λ Pool (σ1.upd ws) w imm2 F2∧Set.le imm1 imm2∧af w imm2 none ds us S∧cY F2 imm2 Pool S∧
  (∀b,imm2 b→imm1 b∨S0 b∨∃κ,F1 κ b)∧(∀κ b,F2 κ b→F1 κ b)∧(∀b,S b→S0 b∨∃κ,F1 κ b)∧(m≠ .own→∀b,¬S b)∧bE pk w Λ xs ds

theorem gN {n:Nat} (ih:∀(m:Mode) (xs:List A) (us:List Value) (f:List A→Pg) (σ1:St) (imm1:Set) (F1:Key→Set) (S0:Set) (K:List W→Prop),fh pk σ Λ Pool σ1 w imm1 F1→af w imm1 (some Λ) xs us S0→cY F1 imm1 Pool S0→
   (cr (au Fn LW IN) n m xs f).holds σ1 K→Out pk σ Λ Pool w σ1 imm1 F1 S0 us xs m f K)
  {m:Mode} {x:A} {xs:List A} {u:Value} {us:List Value} {f:List A→Pg} {K:List W→Prop} {S0 S1 S2:Set} (hv:af w imm1 (some Λ) xs us S2) (hH:cY F1 imm1 Pool S0) (h1:Set.le S1 S0) (h2:Set.le S2 S0) (h12:Set.dis S1 S2)
  (c:A) (ws0:List W) {imm':Set} {F':Key→Set} {Sx:Set} (hP:fh pk σ Λ Pool (σ1.upd ws0) w imm' F') (hi:Set.le imm1 imm') (hc:CR w imm' none c u Sx) (hHx:cY F' imm' Pool Sx) (hi2:∀b,imm' b→imm1 b∨S1 b∨∃κ,F1 κ b)
  (hF:∀κ b,F' κ b→F1 κ b) (hSx:∀b,Sx b→S1 b∨∃κ,F1 κ b) (hm:m≠ .own→∀b,¬Sx b) (hL:∀ds,bE pk w Λ xs ds→bE pk w Λ (x::xs) (c::ds))
  (hh:(cr (au Fn LW IN) n m xs fun as=>f (c::as)).holds (σ1.upd ws0) (fun ws2=>K (ws0++ws2))):Out pk σ Λ Pool w σ1 imm1 F1 S0 (u::us) (x::xs) m f K:=by
 have hH2:cY F' imm' Pool S2:=⟨fun κ b hb hb2=>hH.dis κ b (h2 b hb) (hF κ b hb2),fun b hb hb2=>by
   rcases hi2 b hb2 with h|h|⟨κ,h⟩
   ·exact hH.imm b (h2 b hb) h
   ·exact h12 b h hb
   ·exact hH.dis κ b (h2 b hb) h,Set.le_trans h2 hH.pool⟩
 obtain⟨ws,ds,imm2,F2,S,r1,r2,r3,r4,r5,r6,r7,r8,r9,r10⟩:=ih m xs us _ (σ1.upd ws0) imm' F' S2 _ hP (af.stable hi (fun _ _=>rfl) _ _ _ _ _ _ (bF?.refl _) (Set.le_refl _) (fun _ _=>rfl) hv) hH2 hh
 have hxS:Set.dis Sx S:=fun b hb hb2=>by
  rcases r8 b hb2 with h|⟨κ,h⟩
  ·rcases hSx b hb with h'|⟨κ,h'⟩
   ·exact h12 b h' h
   ·exact hH.dis κ b (h2 b h) h'
  ·exact hHx.dis κ b hb h
 refine⟨ws0++ws,c::ds,imm2,F2,fun b=>Sx b∨S b,?_,by rw[bo];exact r2,Set.le_trans hi r3,?_,⟨fun κ b hb hb2=>?_,fun b hb hb2=>?_,fun b hb=>hb.elim (hHx.pool b) (r5.pool b)⟩,fun b hb=>?_,fun κ b hb=>hF κ b (r7 κ b hb),fun b hb=>?_,fun hmm b hb=>hb.elim (hm hmm b) (r9 hmm b),hL ds r10⟩
 ·rw[bo]
  simpa only[qzl] using r1
 ·simp only[af]
  exact⟨Sx,S,CR.stable r3 (fun _ _=>rfl) none none _ _ _ _ trivial (Set.le_refl _) (fun _ _=>rfl) hc,r4,fun b hb=>.inl hb,fun b hb=>.inr hb,hxS⟩
 ·rcases hb with hb|hb
  ·exact hHx.dis κ b hb (r7 κ b hb2)
  ·exact r5.dis κ b hb hb2
 ·rcases hb with hb|hb
  ·rcases r6 b hb2 with h|h|⟨κ,h⟩
   ·exact hHx.imm b hb h
   ·rcases hSx b hb with h'|⟨κ,h'⟩
    ·exact h12 b h' h
    ·exact hH.dis κ b (h2 b h) h'
   ·exact hHx.dis κ b hb h
  ·exact r5.imm b hb hb2
 ·rcases r6 b hb with h|h|⟨κ,h⟩
  ·rcases hi2 b h with h'|h'|h'
   ·exact .inl h'
   ·exact .inr (.inl (h1 b h'))
   ·exact .inr (.inr h')
  ·exact .inr (.inl (h2 b h))
  ·exact .inr (.inr ⟨κ,hF κ b h⟩)
 ·rcases hb with hb|hb
  ·exact(hSx b hb).imp (h1 b) id
  ·rcases r8 b hb with h|⟨κ,h⟩
   ·exact .inl (h2 b h)
   ·exact .inr ⟨κ,hF κ b h⟩

theorem wO:∀(n:Nat) (m:Mode) (xs:List A) (us:List Value) (f:List A→Pg) (σ1:St) (imm1:Set) (F1:Key→Set) (S0:Set) (K:List W→Prop),fh pk σ Λ Pool σ1 w imm1 F1→af w imm1 (some Λ) xs us S0→cY F1 imm1 Pool S0→
   (cr (au Fn LW IN) n m xs f).holds σ1 K→Out pk σ Λ Pool w σ1 imm1 F1 S0 us xs m f K
 |0,m,xs,us,f,σ1,imm1,F1,S0,K,hP,hv,hH,hh=>by cases xs <;> cases m <;> exact hh.elim
 |n+1,m,[],us,f,σ1,imm1,F1,S0,K,hP,hv,hH,hh=>by
  cases us with
  |nil=>exact⟨[],[],imm1,F1,Set.no,hh,hP,Set.le_refl _,by simp only[af],cY.no,fun b hb=>.inl hb,fun _ _ h=>h,fun _ z=>z.elim,fun _ _ z=>z,by simp only[bE]⟩
  |cons=>simp only[af] at hv
 |n+1,m,x::xs,[],f,σ1,imm1,F1,S0,K,hP,hv,hH,hh=>by simp only[af] at hv
 |n+1,m,x::xs,u::us,f,σ1,imm1,F1,S0,K,hP,hv,hH,hh=>by
  simp only[af] at hv
  obtain⟨S1,S2,hx,hv,h1,h2,h12⟩:=hv
  have ih:=fun m xs us f σ1 imm1 F1 S0 K=>wO n m xs us f σ1 imm1 F1 S0 K
  -- nothing is written, nothing taken
  have keep:∀(c:A),CR w imm1 none c u Set.no→(∀ds,bE pk w Λ xs ds→bE pk w Λ (x::xs) (c::ds))→(cr (au Fn LW IN) n m xs fun as=>f (c::as)).holds σ1 K→Out pk σ Λ Pool w σ1 imm1 F1 S0 (u::us) (x::xs) m f K:=
   fun c hc hL hh=>gN ih hv hH h1 h2 h12 c [] hP (Set.le_refl _) hc cY.no (fun b hb=>.inl hb) (fun _ _ h=>h) (fun _ z=>z.elim) (fun _ _ z=>z) hL hh
  by_cases hsk:m= .skip
  ·subst hsk
   exact keep .hole (by simp only[CR]) (fun ds h=>by cases x <;> simpa [bE] using h) hh
  by_cases hraw:m= .raw
  ·subst hraw
   cases x with
   |lit v=>
    have hu:=bM hx
    subst hu
    exact keep (.lit u) (by simp only[CR]) (fun ds h=>by simpa [bE] using h) hh
   |_=>exact hh.elim
  have hvo:m= .val∨m= .own:=by cases m <;> simp at hsk hraw⊢
  have hex:(cr (au Fn LW IN) (n+1) m (x::xs) f).holds σ1 K:=hh
  cases x with
  |lit v=>
   have hu:=bM hx
   subst hu
   have plainly:(cr (au Fn LW IN) n m xs fun as=>f (.lit u::as)).holds σ1 K→Out pk σ Λ Pool w σ1 imm1 F1 S0 (u::us) (.lit u::xs) m f K:=fun hh=>keep (.lit u) (by simp only[CR]) (fun ds h=>by simpa [bE] using h) hh
   by_cases hnil:u= .slice none 0 0
   ·subst hnil
    rcases hvo with rfl|rfl
    ·exact keep (.tree []) (by simp only[CR];exact⟨none,0,rfl,qzi _,.inl trivial⟩) (fun ds h=>by simpa [bE] using h) hh
    ·obtain⟨k,hh⟩:=hh
     cases k with
     |zero=>exact keep (.tree []) (by simp only[CR];exact⟨none,0,rfl,qzi _,.inl trivial⟩) (fun ds h=>by simpa [bE] using h) hh
     |succ k=>exact keep (.inl (k+1) []) (by simp only[CR];exact⟨none,0,rfl,.inl (by simp)⟩) (fun ds h=>by simpa [bE] using h) hh
   ·refine plainly ?_
    rcases hvo with rfl|rfl <;>
    ·simp only[cr] at hh
     exact hh
  |emp=>
   rcases hvo with rfl|rfl
   ·refine keep (.tree []) ?_ (fun ds h=>by simpa [bE] using h) hh
    simp only[CR] at hx⊢
    obtain⟨ad,e⟩:=hx
    exact⟨ad,0,e,qzi _,.inl trivial⟩
   ·refine keep .emp ?_ (fun ds h=>by simpa [bE] using h) hh
    simp only[CR] at hx⊢
    exact hx
  |tree rows=>
   refine keep (.tree rows) (by simp only[CR] at hx⊢;exact hx) (fun ds h=>by simpa [bE] using h) ?_
   rcases hvo with rfl|rfl <;> exact hh
  |iptr row off=>
   refine keep (.iptr row off) (by simp only[CR] at hx⊢;exact hx) (fun ds h=>by simpa [bE] using h) ?_
   rcases hvo with rfl|rfl <;> exact hh
  |hole=>rcases hvo with rfl|rfl <;> exact hh.elim
  |obox=>rcases hvo with rfl|rfl <;> exact hh.elim
  |optr=>rcases hvo with rfl|rfl <;> exact hh.elim
  |inl k rows=>
   have hx':CR w imm1 none (.inl k rows) u S1:=by simp only[CR] at hx⊢;exact hx
   rcases hvo with rfl|rfl
   ·have hH1:=hH.le h1
    refine gN ih hv hH h1 h2 h12 (.tree (aA rows)) [] (imm':=fun b=>imm1 b∨S1 b) (hP.wider hH1 (fun _=>Iff.rfl)) (fun b hb=>.inl hb) ?_ cY.no (fun b hb=>hb.imp id .inl) (fun _ _ h=>h) (fun _ z=>z.elim) (fun _ _ z=>z) (fun ds h=>by simpa [bE] using h) hh
    have:=CR.freeze (imm':=fun b=>imm1 b∨S1 b) (fun b hb=>.inl hb) _ _ _ hx' (fun b hb=>.inr hb)
    simpa only[fz] using this
   ·exact gN ih hv hH h1 h2 h12 (.inl k rows) [] hP (Set.le_refl _) hx' (hH.le h1) (fun b hb=>.inl hb) (fun _ _ h=>h) (fun _ z=>.inl z) (fun z=>absurd rfl z) (fun ds h=>by simpa [bE] using h) hh
  |agg cs=>
   have hh':(cr (au Fn LW IN) n m cs fun cs'=>cr (au Fn LW IN) n m xs fun as=>f (.agg cs'::as)).holds σ1 K:=by rcases hvo with rfl|rfl <;> exact hh
   simp only[CR] at hx
   obtain⟨vs,rfl,hx⟩:=hx
   obtain⟨ws,ds,imm2,F2,S,r1,r2,r3,r4,r5,r6,r7,r8,r9,r10⟩:=ih m cs vs _ σ1 imm1 F1 S1 K hP hx (hH.le h1) hh'
   exact gN ih hv hH h1 h2 h12 (.agg ds) ws r2 r3 (by simp only[CR];exact⟨vs,rfl,r4⟩) r5 r6 r7 r8 r9 (fun ds h=>by simp only[bE];exact⟨r10,h⟩) r1
  |tup cs=>
   have hh':(cr (au Fn LW IN) n m cs fun cs'=>cr (au Fn LW IN) n m xs fun as=>f (.tup cs'::as)).holds σ1 K:=by rcases hvo with rfl|rfl <;> exact hh
   simp only[CR] at hx
   obtain⟨vs,rfl,hx⟩:=hx
   obtain⟨ws,ds,imm2,F2,S,r1,r2,r3,r4,r5,r6,r7,r8,r9,r10⟩:=ih m cs vs _ σ1 imm1 F1 S1 K hP hx (hH.le h1) hh'
   exact gN ih hv hH h1 h2 h12 (.tup ds) ws r2 r3 (by simp only[CR];exact⟨vs,rfl,r4⟩) r5 r6 r7 r8 r9 (fun ds h=>by simp only[bE];exact⟨r10,h⟩) r1
  |clo g cs=>
   have hh':(cr (au Fn LW IN) n .val cs fun cs'=>cr (au Fn LW IN) n m xs fun as=>f (.clo g cs'::as)).holds σ1 K:=by rcases hvo with rfl|rfl <;> exact hh
   simp only[CR] at hx
   obtain⟨vs,rfl,hx⟩:=hx
   obtain⟨ws,ds,imm2,F2,S,r1,r2,r3,r4,r5,r6,r7,r8,r9,_⟩:=ih .val cs vs _ σ1 imm1 F1 Set.no K hP hx cY.no hh'
   have hS:Set.le S Set.no:=fun b hb=>r9 (by simp) b hb
   exact gN ih hv hH h1 h2 h12 (.clo g ds) ws r2 r3 (by simp only[CR];exact⟨vs,rfl,r4.mono hS⟩) (Sx:=Set.no) cY.no (fun b hb=>(r6 b hb).imp id (fun z=>z.elim (fun y=>y.elim) .inr)) r7 (fun _ z=>z.elim) (fun _ _ z=>z) (fun ds h=>by simpa [bE] using h) r1
  |ref κ g i k=>
   simp only[CR] at hx
   have hN:=hP.nodes κ
   have hh':(Pg.gn κ fun h=>match h with
    | .farr g' _ rows=>if g=g' then .need (i+k≤rows.length) (cr (au Fn LW IN) n m xs fun as=>f (.tree ((au Fn LW IN).part rows i k)::as)) else .fail
    | .arr g' s rows=>match m with
     | .own=>if g=g'∧i=0 then .need (k=rows.length) (.wr [.n κ (.dead g')] (cr (au Fn LW IN) n m xs fun as=>f (.inl s rows::as))) else .fail
     |_=>if g=g' then .need (i+k≤rows.length) (.wr [.n κ (.farr g' s ((au Fn LW IN).fz rows))] (cr (au Fn LW IN) n m xs fun as=>f (.tree ((au Fn LW IN).part ((au Fn LW IN).fz rows) i k)::as))) else .fail
    |_=>.fail).holds σ1 K:=by rcases hvo with rfl|rfl <;> exact hh
   simp only[Pg.holds] at hh'
   generalize lkN σ1.heap κ.1 κ.2=nd at hN hh'
   have lentTree:∀{rows:Rows} (ds:List A),bE pk w Λ xs ds→bE pk w Λ (.ref κ g i k::xs) (.tree rows::ds):=fun ds h=>by simpa [bE] using h
   split at hh'
   ·rename_i g' s rows
    split at hh'
    ·rename_i hg
     subst hg
     obtain⟨hn,hh'⟩:=hh'
     rcases hN with hN|hN
     ·cases hN
     ·obtain⟨q1,q2,q3,q4⟩:=hN
      refine keep _ ?_ lentTree hh'
      rcases q4 with⟨e,rfl⟩|⟨b,base,size,e,q5,q6⟩
      ·exact B4 hx q1 e _
      ·exact zl hx q1 e hn q5 (by rw[q2];exact q6)
    ·exact hh'.elim
   ·rename_i g' s rows
    rcases hN with hN|hN
    ·cases hN
    have hN':=hN
    obtain⟨q1,q2,q3,q4⟩:=hN
    rcases hvo with rfl|rfl
    ·simp only at hh'
     split at hh'
     ·rename_i hg
      subst hg
      obtain⟨hn,hh'⟩:=hh'
      obtain⟨hPk,hHk⟩:=hP.kill κ q1
      have hPw:=hPk.wider (imm2:=fun b=>imm1 b∨F1 κ b) hHk (fun _=>Iff.rfl)
      have hNf:NR w (fun b=>imm1 b∨F1 κ b) Λ (Λ κ) (.farr g s (aA rows)) Set.no:=by
       refine⟨q1,q2,by rw[ge];exact q3,?_⟩
       rcases q4 with⟨e,rfl⟩|⟨b,base,size,S',e,q5,q6,q7,q8,q9,q10⟩
       ·exact .inl ⟨e,rfl⟩
       ·exact .inr ⟨b,base,size,e,.inr q5,aq.freeze (fun b hb=>.inl hb) rows b base s S' q10 (fun b hb=>.inr (q7 b hb))⟩
      have hP2:fh pk σ Λ Pool (σ1.upd [.n κ (.farr g s (aA rows))]) w (fun b=>imm1 b∨F1 κ b) (up F1 κ Set.no):=by
       have:=hPw.set κ (n:=.farr g s (aA rows)) (S:=Set.no) cY.no hNf trivial
       refine⟨hP.slots,fun x=>?_,fun x y hxy=>?_,fun x=>?_,fun x b hb=>?_,lE trivial fun x _=>hP.rs x⟩
       ·have h':=this.nodes x
        have e1:up (up F1 κ Set.no) κ Set.no x=up F1 κ Set.no x:=by unfold up;split <;> rfl
        rw[e1] at h'
        have e2:lkN ((σ1.upd [.n κ (.dead g)]).upd [.n κ (.farr g s (aA rows))]).heap x.1 x.2=lkN (σ1.upd [.n κ (.farr g s (aA rows))]).heap x.1 x.2:=by
         show lkN ((κ,_)::(κ,_)::σ1.heap) x.1 x.2=lkN ((κ,_)::σ1.heap) x.1 x.2
         rw[aP,aP,aP];split <;> rfl
        rw[e2] at h'
        exact h'
       ·exact hPw.dis x y hxy
       ·exact hPw.fimm x
       ·exact hPw.pool x b hb
      refine gN ih hv hH h1 h2 h12 _ [.n κ (.farr g s (aA rows))] hP2 (fun b hb=>.inl hb) (Sx:=Set.no) ?_ cY.no (fun b hb=>hb.imp id (fun z=>.inr ⟨κ,z⟩)) (fun x b hb=>?_) (fun _ z=>z.elim) (fun _ _ z=>z) lentTree hh'
      ·obtain⟨f1,f2,f3,f4⟩:=hNf
       rcases f4 with⟨e,e2⟩|⟨b,base,size,e,f5,f6⟩
       ·exact B4 hx q1 e _
       ·exact zl hx q1 e (by rw[show(au Fn LW IN).fz rows=aA rows from rfl,ge];exact hn) f5 (by rw[q2];exact f6)
      ·by_cases e:x=κ
       ·subst e;rw[az] at hb;exact hb.elim
       ·rw[aN _ _ e] at hb;exact hb
     ·exact hh'.elim
    ·simp only at hh'
     split at hh'
     ·rename_i hg
      obtain⟨rfl,rfl⟩:=hg
      obtain⟨hn,hh'⟩:=hh'
      obtain⟨hPk,hHk⟩:=hP.kill κ q1
      refine gN ih hv hH h1 h2 h12 (.inl s rows) [.n κ (.dead g)] hPk (Set.le_refl _) (wC hN' hx hn) hHk (fun b hb=>.inl hb) (fun x b hb=>?_) (fun b hb=>.inr ⟨κ,hb⟩) (fun z=>absurd rfl z) (fun ds h=>?_) hh'
      ·by_cases e:x=κ
       ·subst e;rw[az] at hb;exact hb.elim
       ·rw[aN _ _ e] at hb;exact hb
      ·simp only[bE]
       refine⟨⟨q1,q2,by rw[q3,hn],trivial,?_,fun b base size e'=>?_⟩,h⟩
       ·rcases q4 with⟨e,_⟩|⟨_,_,_,_,e,_⟩ <;> rw[e] <;> simp
       ·rcases q4 with⟨e,_⟩|⟨b',base',size',_,e,_,_,_,ho,hfit,_⟩ <;> rw[e] at e' <;> cases e'
        exact⟨ho,by rw[q3,q2];exact hfit⟩
     ·exact hh'.elim
   ·exact hh'.elim
  |mptr κ g i off=>
   simp only[CR] at hx
   have hN:=hP.nodes κ
   have hR:=hP.rs κ
   have hh':(Pg.gn κ fun h=>match h with
    | .fbox g' cells=>if g=g'∧i=0 then cr (au Fn LW IN) n m xs fun as=>f (.iptr cells off::as) else .fail
    | .farr g' _ rows=>if g=g' then .ex (List A) fun row=>.need ((au Fn LW IN).At rows i row) (cr (au Fn LW IN) n m xs fun as=>f (.iptr row off::as)) else .fail
    | .box g' cells=>match m with
     | .own=>if g=g'∧i=0∧off=0 then .wr [.n κ (.dead g')] (cr (au Fn LW IN) n .own cells fun cs'=>cr (au Fn LW IN) n m xs fun as=>f (.obox cs'::as)) else .fail
     |_=>if g=g'∧i=0 then .wr [.n κ (.dead g')] (cr (au Fn LW IN) n .val cells fun cs'=>.wr [.n κ (.fbox g' cs')] (cr (au Fn LW IN) n m xs fun as=>f (.iptr cs' off::as))) else .fail
    | .arr g' k rows=>match m with
     | .own=>if g=g'∧off=0 then .wr [.n κ (.dead g')] (cr (au Fn LW IN) n m xs fun as=>f (.optr k rows i::as)) else .fail
     |_=>.fail
    |_=>.fail).holds σ1 K:=by rcases hvo with rfl|rfl <;> exact hh
   simp only[Pg.holds] at hh'
   generalize lkN σ1.heap κ.1 κ.2=nd at hN hR hh'
   have lentPtr:∀{row:List A} (ds:List A),bE pk w Λ xs ds→bE pk w Λ (.mptr κ g i off::xs) (.iptr row off::ds):=fun ds h=>by simpa [bE] using h
   have upno:∀x b,up F1 κ Set.no x b→F1 x b:=fun x b hb=>by
    by_cases e:x=κ
    ·subst e;rw[az] at hb;exact hb.elim
    ·rw[aN _ _ e] at hb;exact hb
   split at hh'
   ·rename_i g' cells
    split at hh'
    ·rename_i hg
     obtain⟨rfl,rfl⟩:=hg
     rcases hN with hN|hN
     ·cases hN
     ·obtain⟨q1,q2,q3,b,base,size,e,q5,q6⟩:=hN
      refine keep _ ?_ lentPtr hh'
      obtain⟨b',base',size',e1,e2⟩:=eG.at hx q1 (by rw[e];simp)
      rw[e] at e1;cases e1
      simp only[CR]
      exact⟨b,base,by rw[e2];simp,q5,q6⟩
    ·exact hh'.elim
   ·rename_i g' s rows
    split at hh'
    ·rename_i hg
     subst hg
     obtain⟨row,hrow,hh'⟩:=hh'
     rcases hN with hN|hN
     ·cases hN
     ·obtain⟨q1,q2,q3,q4⟩:=hN
      refine keep _ ?_ lentPtr hh'
      replace hrow:rows[i]? =some row:=hrow
      rcases q4 with⟨e,rfl⟩|⟨b,base,size,e,q5,q6⟩
      ·simp at hrow
      ·obtain⟨b',base',size',e1,e2⟩:=eG.at hx q1 (by rw[e];simp)
       rw[e] at e1;cases e1
       simp only[CR]
       exact⟨b,base+i * s,by rw[e2,q2],q5,(aq.at _ _ _ _ _ q6 hrow).2⟩
    ·exact hh'.elim
   ·rename_i g' cells
    rcases hN with hN|hN
    ·cases hN
    obtain⟨q1,q2,q3,b,base,size,S',e,q5,q6,q7,q8,q9,q10⟩:=hN
    have hgg:g=g':=by
     rcases hvo with rfl|rfl <;>
     ·simp only at hh'
      split at hh'
      ·rename_i hg;exact hg.1
      ·exact hh'.elim
    obtain⟨b',base',size',e1,e2⟩:=eG.at hx (q1.trans hgg.symm) (by rw[e];simp)
    rw[e] at e1;cases e1
    obtain⟨cvs,hcl,hcell,hcv⟩:=ai.vals _ _ _ q10
    -- the cells, out of the node's hand
    have inner:∀(m':Mode) (f':List A→Pg),g=g'→(cr (au Fn LW IN) n m' cells f').holds (σ1.upd [.n κ (.dead g')]) (fun ws2=>K ([.n κ (.dead g')]++ws2))→
      ∃ws cs' imm2 F2 S,(f' cs').holds (σ1.upd ws) (fun ws2=>K (ws++ws2))∧fh pk σ Λ Pool (σ1.upd ws) w imm2 F2∧Set.le imm1 imm2∧ai w imm2 none cs' b base S∧cY F2 imm2 Pool (fun y=>y=b∨S y)∧
       (∀b,imm2 b→imm1 b∨∃κ,F1 κ b)∧(∀κ b,F2 κ b→F1 κ b)∧(∀b,S b→∃κ,F1 κ b)∧(m'≠ .own→∀b,¬S b)∧¬S b∧cs'.length=cells.length∧(∀y,¬F2 κ y):=by
     rintro m' f' rfl hh
     obtain⟨hPk,hHk⟩:=hP.kill κ q1
     have hSS:Set.le S' (F1 κ):=q7
     obtain⟨ws,ds,imm2,F2,S,r1,r2,r3,r4,r5,r6,r7,r8,r9,_⟩:=ih m' cells cvs f' _ imm1 (up F1 κ Set.no) S' _ hPk hcv (hHk.le hSS) hh
     have hb2:¬imm2 b:=fun hb=>by
      rcases r6 b hb with h|h|⟨x,h⟩
      ·exact hP.fimm κ b q5 h
      ·exact q6 h
      ·by_cases ex:x=κ
       ·subst ex;rw[az] at h;exact h.elim
       ·rw[aN _ _ ex] at h;exact hP.dis x κ ex b h q5
     have hbF:∀x,¬F2 x b:=fun x hb=>by
      have h:=r7 x b hb
      by_cases ex:x=κ
      ·subst ex;rw[az] at h;exact h.elim
      ·rw[aN _ _ ex] at h;exact hP.dis x κ ex b h q5
     have hbS:¬S b:=fun hb=>by
      rcases r8 b hb with h|⟨x,h⟩
      ·exact q6 h
      ·by_cases ex:x=κ
       ·subst ex;rw[az] at h;exact h.elim
       ·rw[aN _ _ ex] at h;exact hP.dis x κ ex b h q5
     refine⟨.n κ (.dead g)::ws,ds,imm2,F2,S,r1,r2,r3,ai.of_vals r4 (fun j hj=>?_),⟨fun x y hy hF=>?_,fun y hy hi=>?_,fun y hy=>?_⟩,fun y hy=>?_,fun x y hy=>upno x y (r7 x y hy),fun y hy=>?_,r9,hbS,?_,fun y hy=>?_⟩
     ·exact hcell j hj
     ·rcases hy with rfl|hy
      ·exact hbF x hF
      ·exact r5.dis x y hy hF
     ·rcases hy with rfl|hy
      ·exact hb2 hi
      ·exact r5.imm y hy hi
     ·rcases hy with rfl|hy
      ·exact hP.pool κ y q5
      ·exact r5.pool y hy
     ·rcases r6 y hy with h|h|⟨x,h⟩
      ·exact .inl h
      ·exact .inr ⟨κ,hSS y h⟩
      ·exact .inr ⟨x,upno x y h⟩
     ·rcases r8 y hy with h|⟨x,h⟩
      ·exact⟨κ,hSS y h⟩
      ·exact⟨x,upno x y h⟩
     ·rw[←r4.length,hcl]
     ·have:=r7 κ y hy;rw[az] at this;exact this
    rcases hvo with rfl|rfl
    ·simp only at hh'
     split at hh'
     ·rename_i hg
      obtain⟨rfl,rfl⟩:=hg
      obtain⟨ws,cs',imm2,F2,S,r1,r2,r3,r4,r5,r6,r7,r8,r9,r10,r11,r12⟩:=inner .val _ rfl hh'
      have hSno:Set.le S Set.no:=fun y hy=>r9 (by simp) y hy
      have hHb:cY F2 imm2 Pool (Set.one b):=r5.le (fun y hy=>.inl hy)
      have hPw:=r2.wider (imm2:=fun y=>imm2 y∨y=b) hHb (fun _=>Iff.rfl)
      have hNf:NR w (fun y=>imm2 y∨y=b) Λ (Λ κ) (.fbox g cs') Set.no:=
       ⟨q1,by rw[r11];exact q2,q3,b,base,size,e,.inr rfl,ai.stable (fun y hy=>.inl hy) (fun _ _=>rfl) none none _ _ _ _ _ trivial hSno rfl (fun _ _=>rfl) r4⟩
      have hP2:=hPw.set κ (n:=.fbox g cs') (S:=Set.no) cY.no hNf trivial
      refine gN ih hv hH h1 h2 h12 (.iptr cs' off) (ws++[.n κ (.fbox g cs')]) (imm':=fun y=>imm2 y∨y=b) (F':=up F2 κ Set.no) (by rw[bo];exact hP2) (fun y hy=>.inl (r3 y hy)) (Sx:=Set.no) ?_ cY.no (fun y hy=>?_) (fun x y hy=>?_) (fun _ z=>z.elim) (fun _ _ z=>z) lentPtr ?_
      ·simp only[CR]
       exact⟨b,base,by rw[e2];simp,.inr rfl,ai.stable (fun y hy=>.inl hy) (fun _ _=>rfl) none none _ _ _ _ _ trivial hSno rfl (fun _ _=>rfl) r4⟩
      ·rcases hy with hy|rfl
       ·exact(r6 y hy).imp id .inr
       ·exact .inr (.inr ⟨κ,q5⟩)
      ·by_cases ex:x=κ
       ·subst ex;rw[az] at hy;exact hy.elim
       ·rw[aN _ _ ex] at hy;exact r7 x y hy
      ·rw[bo]
       simp only[qzl]
       exact r1
     ·exact hh'.elim
    ·simp only at hh'
     split at hh'
     ·rename_i hg
      obtain⟨rfl,rfl,rfl⟩:=hg
      obtain⟨ws,cs',imm2,F2,S,r1,r2,r3,r4,r5,r6,r7,r8,r9,r10,r11,r12⟩:=inner .own _ rfl hh'
      refine gN ih hv hH h1 h2 h12 (.obox cs') ws r2 r3 (Sx:=fun y=>y=b∨S y) ?_ r5 (fun y hy=>(r6 y hy).imp id .inr) r7 (fun y hy=>?_) (fun z=>absurd rfl z) (fun ds h=>?_) r1
      ·simp only[CR]
       exact⟨b,base,size,S,by rw[e2];simp,.inl rfl,r10,fun y hy=>.inr hy,q8,by rw[r11];exact q9,r4⟩
      ·rcases hy with rfl|hy
       ·exact .inr ⟨κ,q5⟩
       ·exact .inr (r8 y hy)
      ·simp only[bE]
       exact⟨⟨q1,by rw[r11];exact q2,q3,trivial,trivial,by rw[e];simp,fun b' base' size' e'=>by rw[e] at e';cases e';exact⟨q8,by rw[q3,q2,Nat.one_mul];exact q9,by rw[r11];exact hR b base size e⟩⟩,h⟩
     ·exact hh'.elim
   ·rename_i g' k rows
    rcases hN with hN|hN
    ·cases hN
    obtain⟨q1,q2,q3,q4⟩:=hN
    rcases hvo with rfl|rfl
    ·exact hh'.elim
    ·simp only at hh'
     split at hh'
     ·rename_i hg
      obtain⟨rfl,rfl⟩:=hg
      rcases q4 with⟨e,rfl⟩|⟨b,base,size,S',e,q5,q6,q7,q8,q9,q10⟩
      ·have:=hx.2.1 q1.symm
       rw[e] at this
       exact this.elim
      ·obtain⟨b',base',size',e1,e2⟩:=eG.at hx q1 (by rw[e];simp)
       rw[e] at e1;cases e1
       obtain⟨hPk,hHk⟩:=hP.kill κ q1
       refine gN ih hv hH h1 h2 h12 (.optr k rows i) [.n κ (.dead g)] hPk (Set.le_refl _) ?_ hHk (fun b hb=>.inl hb) upno (fun b hb=>.inr ⟨κ,hb⟩) (fun z=>absurd rfl z) (fun ds h=>?_) hh'
       ·simp only[CR]
        exact⟨b,base,size,S',by rw[e2,q2];simp,q5,q6,q7,q8,q9,q10⟩
       ·simp only[bE]
        exact⟨⟨q1,q2,q3,trivial,trivial,by rw[e];simp,fun b' base' size' e'=>by rw[e] at e';cases e';exact⟨q8,by rw[q3,q2];exact q9⟩⟩,h⟩
     ·exact hh'.elim
   ·exact hh'.elim
end
end Go.Vm
/- Calls: what a function is known to do with data, and what a call of it comes to. -/
namespace Go.Vm

/-- function f, handed data, answers r; what was lent is then post; nothing else of what stood is changed -/
def Eq (P : Program) (f : FuncId) : Prop := ∃ fn, P.funcs[f]? = some fn ∧ (fn.name == "runtime.NumGoroutine") = false ∧ fn.body.isNone = false
/-- what is known of where boxes stand -/
def KB (p:Nat→Nat→Nat→Prop):List A→List Value→Prop
 | .obox cells::ds,u::us=>(∀b o,u= .pointer (some ⟨b,o,none⟩)→p b o cells.length)∧KB p ds us
 | .agg cs::ds,u::us=>(∀vs:List Value,u= .agg vs.toArray→KB p cs vs)∧KB p ds us
 | .tup cs::ds,u::us=>(∀vs:List Value,u= .tuple vs.toArray→KB p cs vs)∧KB p ds us
 |_::ds,_::us=>KB p ds us
 |_,_=>True
def WAS:List A→List Value→Nat→Nat→Nat→Prop
 | .obox cells::ds,u::us,b,o,n=>(u= .pointer (some ⟨b,o,none⟩)∧cells.length=n)∨WAS ds us b o n
 | .agg cs::ds,u::us,b,o,n=>(∃vs:List Value,u= .agg vs.toArray∧WAS cs vs b o n)∨WAS ds us b o n
 | .tup cs::ds,u::us,b,o,n=>(∃vs:List Value,u= .tuple vs.toArray∧WAS cs vs b o n)∨WAS ds us b o n
 |_::ds,_::us,b,o,n=>WAS ds us b o n
 |_,_,_,_,_=>False
theorem KB.tail {p:Nat→Nat→Nat→Prop} {c:A} {ds:List A} {u:Value} {us:List Value} (h:KB p (c::ds) (u::us)):KB p ds us:=by
 cases c <;> simp only[KB] at h <;> first|exact h|exact h.2
theorem KB.nil {p:Nat→Nat→Nat→Prop}:∀{ds:List A},KB p ds []
 |[]=>by simp only[KB]
 |c::ds=>by cases c <;> simp only[KB]
theorem KB.mono {p p':Nat→Nat→Nat→Prop} (hp:∀b o n,p b o n→p' b o n):∀(ds:List A) (us:List Value),KB p ds us→KB p' ds us
 |[],us,_=>by cases us <;> simp only[KB]
 |c::ds,[],_=>KB.nil
 |c::ds,u::us,h=>by
  have ih:=KB.mono hp ds us h.tail
  cases c <;> simp only[KB] at h⊢ <;> try exact ih
  ·exact⟨fun b o e=>hp _ _ _ (h.1 b o e),ih⟩
  ·exact⟨fun vs e=>KB.mono hp _ vs (h.1 vs e),ih⟩
  ·exact⟨fun vs e=>KB.mono hp _ vs (h.1 vs e),ih⟩
 termination_by ds=>SizeOf.sizeOf ds
theorem WAS.tail {c:A} {ds:List A} {u:Value} {us:List Value} {b o n:Nat} (h:WAS ds us b o n):WAS (c::ds) (u::us) b o n:=by
 cases c <;> simp only[WAS] <;> first|exact h|exact .inr h
theorem KB.of_was {p:Nat→Nat→Nat→Prop}:∀(ds:List A) (us:List Value),(∀b o n,WAS ds us b o n→p b o n)→KB p ds us
 |[],us,_=>by cases us <;> simp only[KB]
 |c::ds,[],_=>KB.nil
 |c::ds,u::us,h=>by
  have ih:=KB.of_was (p:=p) ds us fun b o n hw=>h b o n hw.tail
  cases c <;> simp only[KB,WAS] at h⊢ <;> try exact ih
  ·exact⟨fun b o e=>h b o _ (.inl ⟨e,rfl⟩),ih⟩
  ·exact⟨fun vs e=>KB.of_was _ vs fun b o n hw=>h b o n (.inl ⟨vs,e,hw⟩),ih⟩
  ·exact⟨fun vs e=>KB.of_was _ vs fun b o n hw=>h b o n (.inl ⟨vs,e,hw⟩),ih⟩
 termination_by ds=>SizeOf.sizeOf ds
/-- a box after a call: new, or handed in, and beside it nothing has changed -/
def tF (w w':World) (ds:List A) (vs:List Value) (b o n:Nat):Prop:=
 w.heap.size≤b∨(WAS ds vs b o n∧∀q,(q<o∨o+n≤q)→w'.cell? ⟨b,q,none⟩=w.cell? ⟨b,q,none⟩)
def NS (w w':World) (b o n:Nat):Prop:=w.heap.size≤b∨∀q,(q<o∨o+n≤q)→w'.cell? ⟨b,q,none⟩=w.cell? ⟨b,q,none⟩
def ah (P:Program) (f:FuncId) (ds post:List A) (r:A):Prop:=Eq P f∧
 ∀(w:World) (imm S:Set) (vs:List Value),af w imm none ds vs S→Set.dis S imm→(∀b,imm b→b<w.heap.size)→(∀b,S b→b<w.heap.size)→
  Calls P f vs.toArray w fun
   | .returned v,w'=>∃imm' T1 T2,Set.le imm imm'∧af w' imm' none post vs T1∧CR w' imm' none r v T2∧Set.dis T1 T2∧Set.dis T1 imm'∧Set.dis T2 imm'∧
     (∀b,T1 b∨T2 b→b<w'.heap.size∧(S b∨w.heap.size≤b))∧(∀b,imm' b→b<w'.heap.size∧(imm b∨S b∨w.heap.size≤b))∧
     (∀b,b<w.heap.size→¬S b→w'.heap[b]? =w.heap[b]?)∧w.heap.size≤w'.heap.size∧w'.os=w.os∧w'.output=w.output∧w'.tape=w.tape∧aO w w'∧KB (NS w w') post vs∧KB (tF w w' ds vs) [r] [v]
   | .panicked _,_=>False
   | .outgrown,_=>False

theorem Calls.mono' {P:Program} {f:FuncId} {args:Array Value} {w:World} {R R':Ending→World→Prop} (h:Calls P f args w R) (hr:∀e w',R e w'→R' e w'):Calls P f args w R':=fun cs=>by
 obtain⟨e,w',fr,h1,h2⟩:=h cs
 exact⟨e,w',fr,hr _ _ h1,h2⟩

section
variable {P:Program} {E:TE} {Fn:FuncId→List A→List A→A→Prop} {LW:Code→(Ex→St→Prop)→St→Prop} {IN:InT} {w:World} {pk pk':Nat→Nat→Nat→Prop} {σ σ1:St} {Λ:Lam} {Pool imm imm1:Set} {F1 F:Key→Set}

theorem af.single {x:Option Lam} {cs:List A} {v:Value} {S:Set} (h:af w imm x cs [v] S):∃c,cs=[c]∧CR w imm x c v S:=by
 match cs with
 |[]=>simp only[af] at h
 |[c]=>simp only[af] at h;obtain⟨S1,S2,h1,_,h3,_⟩:=h;exact⟨c,rfl,h1.mono h3⟩
 |_::_::_=>simp only[af] at h;obtain⟨_,_,_,h,_⟩:=h;exact h.elim
theorem af.of_one {x:Option Lam} {c:A} {v:Value} {S:Set} (h:CR w imm x c v S):af w imm x [c] [v] S:=by
 simp only[af];exact⟨S,Set.no,h,trivial,Set.le_refl _,Set.no_le _,fun _ _ z=>z⟩

theorem bE.cons {x:A} {c:A} {xs ds:List A} (h:bE pk w Λ [x] [c]) (h':bE pk w Λ xs ds):bE pk w Λ (x::xs) (c::ds):=by
 cases x <;> cases c <;> simp only[bE] at h⊢ <;> first|exact h'|exact⟨h.1,h'⟩
theorem bE.tail {x:A} {c:A} {xs ds:List A} (h:bE pk w Λ (x::xs) (c::ds)):bE pk w Λ xs ds:=by
 cases x <;> cases c <;> simp only[bE] at h <;> first|exact h|exact h.2
theorem bE.kb:∀(as ds:List A) (us:List Value),bE pk w Λ as ds→af w imm (some Λ) as us Set.no→KB pk ds us
 |as,[],us,_,_=>by cases us <;> simp only[KB]
 |as,c::ds,[],_,_=>KB.nil
 |[],c::ds,u::us,_,hA=>by simp only[af] at hA
 |x::as,c::ds,u::us,hL,hA=>by
  have hA0:=hA
  simp only[af] at hA
  obtain⟨A1,A2,hA,hAs,a1,a2,_⟩:=hA
  have ih:=bE.kb as ds us hL.tail (hAs.mono a2)
  cases c <;> simp only[KB] <;> try exact ih
  ·cases x <;> simp only[bE] at hL
   simp only[CR] at hA
   obtain⟨⟨l1,l2,l3,rfl,rfl,l5,l6⟩,hL⟩:=hL
   obtain⟨b',base,size,hloc,e'⟩:=eG.at hA l1 l5
   refine⟨fun b o e=>?_,ih⟩
   rw[e'] at e
   simp only[Value.pointer.injEq,qzh,Addr.mk.injEq,and_true] at e
   obtain⟨rfl,rfl⟩:=e
   simpa using (l6 _ _ _ hloc).2.2
  ·cases x <;> simp only[bE] at hL
   simp only[CR] at hA
   obtain⟨vs,rfl,hA⟩:=hA
   refine⟨fun vs' e=>?_,ih⟩
   have e':vs=vs':=by simpa using e
   subst e'
   exact bE.kb _ _ vs hL.1 (hA.mono a1)
  ·cases x <;> simp only[bE] at hL
   simp only[CR] at hA
   obtain⟨vs,rfl,hA⟩:=hA
   refine⟨fun vs' e=>?_,ih⟩
   have e':vs=vs':=by simpa using e
   subst e'
   exact bE.kb _ _ vs hL.1 (hA.mono a1)
 termination_by as=>SizeOf.sizeOf as
theorem KB.was {p:Nat→Nat→Nat→Prop}:∀(ds:List A) (us:List Value) {b o n:Nat},KB p ds us→WAS ds us b o n→p b o n
 |[],us,b,o,n,_,h=>by cases us <;> simp only[WAS] at h
 |c::ds,[],b,o,n,_,h=>by cases c <;> simp only[WAS] at h
 |c::ds,u::us,b,o,n,hk,h=>by
  have ih:=KB.was ds us (b:=b) (o:=o) (n:=n) hk.tail
  cases c <;> simp only[WAS] at h <;> simp only[KB] at hk <;> try exact ih h
  ·rcases h with⟨h1,rfl⟩|h
   ·exact hk.1 b o h1
   ·exact ih h
  ·rcases h with⟨vs,h1,h2⟩|h
   ·exact KB.was _ vs (hk.1 vs h1) h2
   ·exact ih h
  ·rcases h with⟨vs,h1,h2⟩|h
   ·exact KB.was _ vs (hk.1 vs h1) h2
   ·exact ih h
 termination_by ds=>SizeOf.sizeOf ds

theorem kk {n:Nat}:∀(xs:List A) (ms:List Mode) (us:List Value) (f:List A→Pg) (σ1:St) (imm1:Set) (F1:Key→Set) (K:List W→Prop),fh pk σ Λ Pool σ1 w imm1 F1→af w imm1 (some Λ) xs us Set.no→
   (lh (au Fn LW IN) n ms xs f).holds σ1 K→∃ws ds imm2 F2 S,(f ds).holds (σ1.upd ws) (fun ws2=>K (ws++ws2))∧fh pk σ Λ Pool (σ1.upd ws) w imm2 F2∧Set.le imm1 imm2∧af w imm2 none ds us S∧cY F2 imm2 Pool S∧
  (∀b,imm2 b→imm1 b∨∃κ,F1 κ b)∧(∀κ b,F2 κ b→F1 κ b)∧(∀b,S b→∃κ,F1 κ b)∧bE pk w Λ xs ds
 |[],ms,us,f,σ1,imm1,F1,K,hP,hv,hh=>by
  cases us with
  |nil=>exact⟨[],[],imm1,F1,Set.no,hh,hP,Set.le_refl _,by simp only[af],cY.no,fun b hb=>.inl hb,fun _ _ h=>h,fun _ z=>z.elim,by simp only[bE]⟩
  |cons=>simp only[af] at hv
 |x::xs,ms,[],f,σ1,imm1,F1,K,hP,hv,hh=>by simp only[af] at hv
 |x::xs,ms,u::us,f,σ1,imm1,F1,K,hP,hv,hh=>by
  simp only[af] at hv
  obtain⟨S1,S2,hx,hv,h1,h2,_⟩:=hv
  replace hx:=hx.mono h1
  replace hv:=hv.mono h2
  obtain⟨ws,ds,imm2,F2,S,r1,r2,r3,r4,r5,r6,r7,r8,r9,r10⟩:=wO n _ [x] [u] _ σ1 imm1 F1 Set.no K hP (af.of_one hx) cY.no hh
  obtain⟨c,rfl,hc⟩:=af.single r4
  obtain⟨ws',ds',imm3,F3,S',q1,q2,q3,q4,q5,q6,q7,q8,q9⟩:=kk xs ms.tail us _ (σ1.upd ws) imm2 F2 _ r2 (af.stable r3 (fun _ _=>rfl) _ _ _ _ _ _ (bF?.refl _) (Set.le_refl _) (fun _ _=>rfl) hv) r1
  have r6':∀b,imm2 b→imm1 b∨∃κ,F1 κ b:=fun b hb=>(r6 b hb).imp id (fun z=>z.elim (fun y=>y.elim) id)
  have r8':∀b,S b→∃κ,F1 κ b:=fun b hb=>(r8 b hb).elim (fun y=>y.elim) id
  have hSS:Set.dis S S':=fun b hb hb2=>by obtain⟨κ,h⟩:=q8 b hb2;exact r5.dis κ b hb h
  refine⟨ws++ws',c::ds',imm3,F3,fun b=>S b∨S' b,by rw[bo];simp only[qzl];exact q1,by rw[bo];exact q2,Set.le_trans r3 q3,?_,⟨fun κ b hb hb2=>?_,fun b hb hb2=>?_,fun b hb=>hb.elim (r5.pool b) (q5.pool b)⟩,fun b hb=>?_,fun κ b hb=>r7 κ b (q7 κ b hb),fun b hb=>?_,bE.cons r10 q9⟩
  ·simp only[af]
   exact⟨S,S',CR.stable q3 (fun _ _=>rfl) none none _ _ _ _ trivial (Set.le_refl _) (fun _ _=>rfl) hc,q4,fun b hb=>.inl hb,fun b hb=>.inr hb,hSS⟩
  ·rcases hb with hb|hb
   ·exact r5.dis κ b hb (q7 κ b hb2)
   ·exact q5.dis κ b hb hb2
  ·rcases hb with hb|hb
   ·rcases q6 b hb2 with h|⟨κ,h⟩
    ·exact r5.imm b hb h
    ·exact r5.dis κ b hb h
   ·exact q5.imm b hb hb2
  ·rcases q6 b hb with h|⟨κ,h⟩
   ·exact r6' b h
   ·exact .inr ⟨κ,r7 κ b h⟩
  ·rcases hb with hb|hb
   ·exact r8' b hb
   ·obtain⟨κ,h⟩:=q8 b hb;exact⟨κ,r7 κ b h⟩

theorem Own.size_same {w':World} {b s s':Nat} (h:Own w b s) (hk:aO w w') (h':Own w' b s'):s'=s:=by
 obtain⟨c,e,lo,hi,h1,h2,_⟩:=h
 obtain⟨c',e',lo',hi',h3,h4,_⟩:=h'
 obtain⟨c2,e2,fr2,h5,h6⟩:=hk b c e _ h1
 rw[h3] at h5
 cases h5
 omega

theorem cY.upno {κ:Key} {S:Set} (h:cY F1 imm Pool S):cY (up F1 κ Set.no) imm Pool S:=
 ⟨fun x b hb hx=>by
   by_cases ex:x=κ
   ·subst ex;rw[az] at hx;exact hx.elim
   ·rw[aN _ _ ex] at hx;exact h.dis x b hb hx,h.imm,h.pool⟩
theorem cY.up {κ:Key} {S T:Set} (h:cY F1 imm Pool S) (hd:Set.dis S T):cY (Vm.up F1 κ T) imm Pool S:=
 ⟨fun x b hb hx=>by
   by_cases ex:x=κ
   ·subst ex;rw[az] at hx;exact hd b hb hx
   ·rw[aN _ _ ex] at hx;exact h.dis x b hb hx,h.imm,h.pool⟩

theorem iZ {w':World} (hk:aO w w') {nk:Nat→Nat→Nat→Prop} (hnk:∀b o n,pk b o n→nk b o n→pk' b o n):∀(as ds ps:List A) (us:List Value) (σ1:St) (F1:Key→Set) (T:Set) (p:Pg) (K:List W→Prop),fh pk' σ Λ Pool σ1 w' imm F1→bE pk w Λ as ds→KB nk ps us→af w imm1 (some Λ) as us Set.no→af w' imm none ps us T→cY F1 imm Pool T→
   (mi (au Fn LW IN) as ds ps p).holds σ1 K→∃ws F2,p.holds (σ1.upd ws) (fun ws2=>K (ws++ws2))∧fh pk' σ Λ Pool (σ1.upd ws) w' imm F2∧∀κ b,F2 κ b→F1 κ b∨T b
 |as,ds,ps,us,σ1,F1,T,p,K,hP,hL,hKB,hA,hV,hH,hh=>by
  unfold mi at hh
  split at hh
  ·rename_i κ g i n as k rows0 ds k' rows ps
   split at hh
   ·rename_i hkk
    subst hkk
    cases us with
    |nil=>simp only[af] at hA
    |cons u us=>
     simp only[af] at hA hV
     simp only[bE] at hL
     obtain⟨⟨l1,l2,l3,rfl,l5,l6⟩,hL⟩:=hL
     obtain⟨A1,A2,hA,hAs,a1,a2,_⟩:=hA
     obtain⟨V1,V2,hV,hVs,v1,v2,v3⟩:=hV
     simp only[CR] at hA hV
     have hr:=hA.2.1 l1.symm
     have hH1:=hH.le v1
     have hN:NR w' imm Λ (Λ κ) (.arr g k rows) V1:=by
      obtain⟨ad,cap,e,hV⟩:=hV
      cases hloc:(Λ κ).loc with
      |gone=>exact absurd hloc l5
      |nil=>
       rw[hloc] at hr
       obtain⟨_,rfl,e2⟩:=hr
       rw[e2] at e
       simp only[Value.slice.injEq] at e
       obtain⟨rfl,e3,rfl⟩:=e
       have:rows=[]:=qzA e3.symm
       subst this
       exact⟨l1,l2,by rw[l3];rfl,.inl ⟨hloc,rfl⟩⟩
      |at_ b base size=>
       rw[hloc] at hr
       obtain⟨o,cap',e2,h1,h2,h3,h4⟩:=hr
       rw[e2] at e
       simp only[Value.slice.injEq] at e
       obtain⟨e4,rfl,rfl⟩:=e
       rcases hV with⟨e5,_⟩|⟨b',o',size',S',e5,q1,q2,q3,q4,q5,q6,q7,q8⟩
       ·rw[←e4] at e5;cases e5
       ·rw[←e4] at e5
        cases e5
        obtain⟨l6,l7⟩:=l6 b base size hloc
        have hs:=Own.size_same l6 hk q4
        subst hs
        refine⟨l1,l2,l3,.inr ⟨b,base,_,S',hloc,q1,q2,q3,q4,by rw[←l3,←l2];exact l7,?_⟩⟩
        rcases h4 with h4|⟨h4,h5⟩
        ·have hl0:rows.length=0:=by omega
         rw[qzA hl0]
         simp only[aq]
        ·have:o=base:=by rw[h4];simp
         rw[←this];exact q8
     have hP2:=hP.set κ (n:=.arr g k rows) (S:=V1) hH1.upno hN trivial
     obtain⟨ws,F2,r1,r2,r3⟩:=iZ hk hnk as ds ps us _ (up F1 κ V1) V2 p _ hP2 hL hKB.tail (hAs.mono a2) hVs ((hH.le v2).up (fun b h1 h2=>v3 b h2 h1)) hh
     refine⟨.n κ (.arr g k rows)::ws,F2,r1,r2,fun x b hb=>?_⟩
     rcases r3 x b hb with h|h
     ·by_cases ex:x=κ
      ·subst ex;rw[az] at h;exact .inr (v1 b h)
      ·rw[aN _ _ ex] at h;exact .inl h
     ·exact .inr (v2 b h)
   ·exact hh.elim
  ·rename_i κ g i off as k rows0 j ds k' rows j' ps
   split at hh
   ·rename_i hkk
    subst hkk
    obtain⟨⟨hlen,hjj⟩,hh⟩:=hh
    replace hlen:rows.length=rows0.length:=hlen
    subst hjj
    cases us with
    |nil=>simp only[af] at hA
    |cons u us=>
     simp only[af] at hA hV
     simp only[bE] at hL
     obtain⟨⟨l1,l2,l3,rfl,rfl,l5,l6⟩,hL⟩:=hL
     obtain⟨A1,A2,hA,hAs,a1,a2,_⟩:=hA
     obtain⟨V1,V2,hV,hVs,v1,v2,v3⟩:=hV
     simp only[CR] at hA hV
     have hH1:=hH.le v1
     have hN:NR w' imm Λ (Λ κ) (.arr g k rows) V1:=by
      obtain⟨b',o',size',S',e5,q1,q2,q3,q4,q5,q6⟩:=hV
      obtain⟨b,base,size,hloc,e⟩:=eG.at hA l1 l5
      rw[e] at e5
      simp only[Value.pointer.injEq,qzh,Addr.mk.injEq,and_true] at e5
      obtain⟨rfl,e6⟩:=e5
      have e7:o'=base:=by rw[l2] at e6;omega
      subst e7
      obtain⟨l6,l7⟩:=l6 b o' size hloc
      have hs:=Own.size_same l6 hk q4
      subst hs
      exact⟨l1,l2,by rw[l3,hlen],.inr ⟨b,o',_,S',hloc,q1,q2,q3,q4,q5,q6⟩⟩
     have hP2:=hP.set κ (n:=.arr g k rows) (S:=V1) hH1.upno hN trivial
     obtain⟨ws,F2,r1,r2,r3⟩:=iZ hk hnk as ds ps us _ (up F1 κ V1) V2 p _ hP2 hL hKB.tail (hAs.mono a2) hVs ((hH.le v2).up (fun b h1 h2=>v3 b h2 h1)) hh
     refine⟨.n κ (.arr g k rows)::ws,F2,r1,r2,fun x b hb=>?_⟩
     rcases r3 x b hb with h|h
     ·by_cases ex:x=κ
      ·subst ex;rw[az] at h;exact .inr (v1 b h)
      ·rw[aN _ _ ex] at h;exact .inl h
     ·exact .inr (v2 b h)
   ·exact hh.elim
  ·rename_i κ g i off as cells ds cells' ps
   split at hh
   ·rename_i hkk
    cases us with
    |nil=>simp only[af] at hA
    |cons u us=>
     simp only[af] at hA hV
     simp only[bE] at hL
     obtain⟨⟨l1,l2,l3,rfl,rfl,l5,l6⟩,hL⟩:=hL
     obtain⟨A1,A2,hA,hAs,a1,a2,_⟩:=hA
     obtain⟨V1,V2,hV,hVs,v1,v2,v3⟩:=hV
     simp only[CR] at hA hV
     have hH1:=hH.le v1
     have hN:NR w' imm Λ (Λ κ) (.box g cells') V1:=by
      obtain⟨b',o',size',S',e5,q1,q2,q3,q4,q5,q6⟩:=hV
      obtain⟨b,base,size,hloc,e⟩:=eG.at hA l1 l5
      rw[e] at e5
      simp only[Value.pointer.injEq,qzh,Addr.mk.injEq,and_true] at e5
      obtain⟨rfl,rfl⟩:=e5
      obtain⟨l6,l7,_⟩:=l6 b base size hloc
      have hs:=Own.size_same l6 hk q4
      subst hs
      refine⟨l1,by rw[l2,hkk],l3,b,base,_,S',hloc,q1,q2,q3,q4,?_,?_⟩
      ·simpa using q5
      ·exact ai.any _ _ _ _ _ _ _ (by simpa using q6)
     have hP2:=hP.set κ (n:=.box g cells') (S:=V1) hH1.upno hN (fun b base size e=>by
      obtain⟨b',base',size',hloc,e'⟩:=eG.at hA l1 l5
      rw[hloc] at e
      cases e
      simp only[KB] at hKB
      have h1:=(l6 b base size hloc).2.2
      rw[hkk] at h1
      exact hnk _ _ _ h1 (hKB.1 b base (by rw[e'];simp)))
     obtain⟨ws,F2,r1,r2,r3⟩:=iZ hk hnk as ds ps us _ (up F1 κ V1) V2 p _ hP2 hL hKB.tail (hAs.mono a2) hVs ((hH.le v2).up (fun b h1 h2=>v3 b h2 h1)) hh
     refine⟨.n κ (.box g cells')::ws,F2,r1,r2,fun x b hb=>?_⟩
     rcases r3 x b hb with h|h
     ·by_cases ex:x=κ
      ·subst ex;rw[az] at h;exact .inr (v1 b h)
      ·rw[aN _ _ ex] at h;exact .inl h
     ·exact .inr (v2 b h)
   ·exact hh.elim
  ·rename_i cs as es ds fs ps
   cases us with
   |nil=>simp only[af] at hA
   |cons u us=>
    simp only[af] at hA hV
    simp only[bE] at hL
    obtain⟨A1,A2,hA,hAs,a1,a2,_⟩:=hA
    obtain⟨V1,V2,hV,hVs,v1,v2,v3⟩:=hV
    simp only[CR] at hA hV
    obtain⟨vs,rfl,hA⟩:=hA
    obtain⟨vs',e,hV⟩:=hV
    simp only[Value.agg.injEq] at e
    have e':vs=vs':=by simpa using congrArg Array.toList e
    subst e'
    simp only[KB] at hKB
    obtain⟨ws,F2,r1,r2,r3⟩:=iZ hk hnk cs es fs vs _ F1 V1 _ _ hP hL.1 (hKB.1 vs rfl) (hA.mono a1) hV (hH.le v1) hh
    obtain⟨ws',F3,q1,q2,q3⟩:=iZ hk hnk as ds ps us _ F2 V2 p _ r2 hL.2 hKB.2 (hAs.mono a2) hVs ⟨fun κ b hb hb2=>(r3 κ b hb2).elim (hH.dis κ b (v2 b hb)) (fun z=>v3 b z hb),fun b hb=>hH.imm b (v2 b hb),fun b hb=>hH.pool b (v2 b hb)⟩ r1
    refine⟨ws++ws',F3,by rw[bo];simp only[qzl];exact q1,by rw[bo];exact q2,fun x b hb=>?_⟩
    rcases q3 x b hb with h|h
    ·exact(r3 x b h).imp id (v1 b)
    ·exact .inr (v2 b h)
  ·rename_i x as c ds q ps _ _ _ _
   cases us with
   |nil=>simp only[af] at hA
   |cons u us=>
    simp only[af] at hA hV
    obtain⟨A1,A2,hA,hAs,a1,a2,_⟩:=hA
    obtain⟨V1,V2,hV,hVs,v1,v2,v3⟩:=hV
    have hL':bE pk w Λ as ds:=hL.tail
    obtain⟨ws,F2,r1,r2,r3⟩:=iZ hk hnk as ds ps us _ F1 V2 p _ hP hL' hKB.tail (hAs.mono a2) hVs (hH.le v2) hh
    exact⟨ws,F2,r1,r2,fun x b hb=>(r3 x b hb).imp id (v2 b)⟩
  ·exact⟨[],F1,hh,hP,fun _ _ h=>.inl h⟩
 termination_by as=>SizeOf.sizeOf as

variable {ρ:Env} {K:List W→Prop} {o:Oper} {a:Act} {Q:Exit→Act→World→Prop}

def xq (ρ:Env) (w:World):Set:=fun b=>b<w.heap.size∧(ρ.own0 b∨ρ.w0.heap.size≤b)

/-- a node made of what is in no node's hand -/
theorem aD.gain (h:aD ρ σ a w imm Λ F) {κ:Key} {n:HN} {i:KI} {T:Set} (hg:i.gen=(lkN σ.heap κ.1 κ.2).gen+1) (hT:cY F imm (xq ρ w) T) (hN:NR w imm (up Λ κ i) i n T) (hRS:RS ρ w i n) :
  aD ρ (σ.upd1 (.n κ n)) a w imm (up Λ κ i) (up F κ T)∧bF Λ (up Λ κ i):=by
 have hle:bF Λ (up Λ κ i):=by
  intro x
  by_cases ex:x=κ
  ·subst ex;rw[az];have:=rn h x;exact⟨by omega,fun e=>by omega⟩
  ·rw[aN _ _ ex];exact⟨qzi _,fun _=>.inr rfl⟩
 refine⟨{ h with rs:=lE (by rw[az];exact hRS) fun x hx=>by rw[aN _ _ hx];exact h.rs x,slots:=fun t=>CR.stable (Set.le_refl _) (fun _ _=>rfl) (some Λ) (some _) _ _ _ _ hle (Set.le_refl _) (fun _ z=>z.elim) (h.slots t),nodes:=fun x=>?_,dis:=fun x y hxy=>?_,fimm:=fun x=>?_,flt:=fun x b hb=>?_ },hle⟩
 ·show NR _ _ _ _ (lkN ((κ,n)::σ.heap) x.1 x.2) _
  rw[aP]
  by_cases ex:x=κ
  ·subst ex;rw[if_pos rfl,az,az];exact hN
  ·rw[if_neg ex,aN _ _ ex,aN _ _ ex];exact(h.nodes x).le hle
 ·by_cases ex:x=κ
  ·subst ex;rw[az,aN _ _ (fun z=>hxy z.symm)];exact hT.dis y
  ·rw[aN _ _ ex]
   by_cases ey:y=κ
   ·subst ey;rw[az];exact fun b h1 h2=>hT.dis x b h2 h1
   ·rw[aN _ _ ey];exact h.dis x y hxy
 ·by_cases ex:x=κ
  ·subst ex;rw[az];exact hT.imm
  ·rw[aN _ _ ex];exact h.fimm x
 ·by_cases ex:x=κ
  ·subst ex;rw[az] at hb;exact hT.pool b hb
  ·rw[aN _ _ ex] at hb;exact h.flt x b hb

def In (ρ:Env) (a:Act) (w:World) (imm:Set) (σ:St) (Λ:Lam) (F:Key→Set) (T:Set) (us:List Value) (f:List A→Pg) (K:List W→Prop):Prop:=
 ∃ws as Λ' F',(f as).holds (σ.upd ws) (fun ws2=>K (ws++ws2))∧aD ρ (σ.upd ws) a w imm Λ' F'∧bF Λ Λ'∧af w imm (some Λ') as us Set.no∧(∀κ b,F' κ b→F κ b∨T b)

theorem bF.trans {Λ Λ' Λ2:Lam} (h:bF Λ Λ') (h':bF Λ' Λ2):bF Λ Λ2:=fun κ=>by
 refine⟨qzz (h κ).1 (h' κ).1,fun e=>?_⟩
 have h1:=(h κ).1
 have h2:=(h' κ).1
 rcases (h' κ).2 qom with h3|h3
 ·exact .inl h3
 ·rw[h3]
  exact(h κ).2 qom

theorem ne (d:Nat):∀(n j:Nat) (xs:List A) (us:List Value) (f:List A→Pg) (σ:St) (Λ:Lam) (F:Key→Set) (T:Set) (K:List W→Prop),aD ρ σ a w imm Λ F→KB (ρ.kept w) xs us→af w imm none xs us T→cY F imm (xq ρ w) T→
   (imp (au Fn LW IN) d n j xs f).holds σ K→In ρ a w imm σ Λ F T us f K
 |0,j,xs,us,f,σ,Λ,F,T,K,h,hKB,hv,hH,hh=>by cases xs <;> exact hh.elim
 |n+1,j,[],us,f,σ,Λ,F,T,K,h,hKB,hv,hH,hh=>by
  cases us with
  |nil=>exact⟨[],[],Λ,F,hh,h,bF.refl Λ,by simp only[af],fun _ _ z=>.inl z⟩
  |cons=>simp only[af] at hv
 |n+1,j,x::xs,[],f,σ,Λ,F,T,K,h,hKB,hv,hH,hh=>by simp only[af] at hv
 |n+1,j,x::xs,u::us,f,σ,Λ,F,T,K,h,hKB,hv,hH,hh=>by
  simp only[af] at hv
  obtain⟨T1,T2,hx,hv,h1,h2,h12⟩:=hv
  have go:∀(c:A) (ws0:List W) (j':Nat) (Λ':Lam) (F':Key→Set),aD ρ (σ.upd ws0) a w imm Λ' F'→bF Λ Λ'→CR w imm (some Λ') c u Set.no→(∀κ b,F' κ b→F κ b∨T1 b)→
    (imp (au Fn LW IN) d n j' xs fun as=>f (c::as)).holds (σ.upd ws0) (fun ws2=>K (ws0++ws2))→In ρ a w imm σ Λ F T (u::us) f K:=by
   intro c ws0 j' Λ' F' hr hl hc hF hh
   have hH2:cY F' imm (xq ρ w) T2:=⟨fun κ b hb hb2=>by
     rcases hF κ b hb2 with h'|h'
     ·exact hH.dis κ b (h2 b hb) h'
     ·exact h12 b h' hb,(hH.le h2).imm,(hH.le h2).pool⟩
   obtain⟨ws,as,Λ2,F2,r1,r2,r3,r4,r5⟩:=ne d n j' xs us _ (σ.upd ws0) Λ' F' T2 _ hr hKB.tail hv hH2 hh
   refine⟨ws0++ws,c::as,Λ2,F2,by rw[bo];simp only[qzl];exact r1,by rw[bo];exact r2,hl.trans r3,?_,fun κ b hb=>?_⟩
   ·simp only[af]
    exact⟨Set.no,Set.no,CR.stable (Set.le_refl _) (fun _ _=>rfl) (some Λ') (some Λ2) _ _ _ _ r3 (Set.le_refl _) (fun _ _=>rfl) hc,r4,Set.le_refl _,Set.le_refl _,Set.no_dis _⟩
   ·rcases r5 κ b hb with h'|h'
    ·exact(hF κ b h').imp id (h1 b)
    ·exact .inr (h2 b h')
  have keep:CR w imm (some Λ) x u Set.no→(imp (au Fn LW IN) d n j xs fun as=>f (x::as)).holds σ K→In ρ a w imm σ Λ F T (u::us) f K:=
   fun hc hh=>go x [] j Λ F h (bF.refl Λ) hc (fun _ _ z=>.inl z) hh
  cases x with
  |lit v=>exact keep (by simp only[CR] at hx⊢;exact hx) hh
  |emp=>exact keep (by simp only[CR] at hx⊢;exact hx) hh
  |tree rows=>exact keep (by simp only[CR] at hx⊢;exact hx) hh
  |iptr r off=>exact keep (by simp only[CR] at hx⊢;exact hx) hh
  |hole=>exact keep (by simp only[CR]) hh
  |clo g cs=>exact keep ((CR.any w imm (some Λ) _ _ _ (show CR w imm none (.clo g cs) u Set.no by simp only[CR] at hx⊢;exact hx))) hh
  |ref=>exact hh.elim
  |mptr=>exact hh.elim
  |optr k rows i=>
   simp only[CR] at hx
   obtain⟨b',o',size,S',e,g1,g2,g3,g4,g5,g6⟩:=hx
   let g:=(lkN σ.heap (d,j).1 (d,j).2).gen+1
   obtain⟨hr,hl⟩:=h.gain (κ:=(d,j)) (n:=.arr g k rows) (i:=⟨g,.at_ b' o' size,k,rows.length⟩) rfl (hH.le h1) (by
    exact⟨rfl,rfl,rfl,.inr ⟨b',o',size,S',rfl,g1,g2,g3,g4,g5,g6⟩⟩) trivial
   refine go (.mptr (d,j) g i 0) [.n (d,j) (.arr g k rows)] (j+1) _ _ hr hl ?_ (fun κ b hb=>?_) hh
   ·simp only[CR,az,eG]
    exact⟨qzi _,fun _=>by rw[e];simp,_,e⟩
   ·by_cases ex:κ=(d,j)
    ·subst ex;rw[az] at hb;exact .inr hb
    ·rw[aN _ _ ex] at hb;exact .inl hb
  |inl k rows=>
   simp only[CR] at hx
   obtain⟨ad,cap,e,hx⟩:=hx
   let g:=(lkN σ.heap (d,j).1 (d,j).2).gen+1
   have hex:∃loc:Loc,loc≠ .gone∧(∀Λ',NR w imm Λ' ⟨g,loc,k,rows.length⟩ (.arr g k rows) T1)∧eB ⟨g,loc,k,rows.length⟩ g 0 rows.length u:=by
    rcases hx with⟨rfl,rfl,rfl⟩|⟨b',o',size,S',rfl,g1,g2,g3,g4,g5,g6,g7,g8⟩
    ·exact⟨.nil,by simp,fun _=>⟨rfl,rfl,rfl,.inl ⟨rfl,rfl⟩⟩,qzi _,fun _=>⟨rfl,rfl,e⟩,_,_,_,e⟩
    ·refine⟨.at_ b' o' size,by simp,fun _=>?_,qzi _,fun _=>⟨o',cap,e,g7,by simp,g6,.inr ⟨by simp,by simpa using g5⟩⟩,_,_,_,e⟩
     refine⟨rfl,rfl,rfl,.inr ⟨b',o',size,S',rfl,g1,g2,g3,g4,?_,g8⟩⟩
     have:=qzp k g7
     omega
   obtain⟨loc,_,hN,hR⟩:=hex
   obtain⟨hr,hl⟩:=h.gain (κ:=(d,j)) (n:=.arr g k rows) (i:=⟨g,loc,k,rows.length⟩) rfl (hH.le h1) (hN _) trivial
   refine go (.ref (d,j) g 0 rows.length) [.n (d,j) (.arr g k rows)] (j+1) _ _ hr hl ?_ (fun κ b hb=>?_) hh
   ·simp only[CR,az];exact hR
   ·by_cases ex:κ=(d,j)
    ·subst ex;rw[az] at hb;exact .inr hb
    ·rw[aN _ _ ex] at hb;exact .inl hb
  |obox cells=>
   simp only[CR] at hx
   obtain⟨b',o',size,S',e,g1,g2,g3,g4,g5,g6⟩:=hx
   let g:=(lkN σ.heap (d,j).1 (d,j).2).gen+1
   obtain⟨hr,hl⟩:=h.gain (κ:=(d,j)) (n:=.box g cells) (i:=⟨g,.at_ b' o' size,cells.length,1⟩) rfl (hH.le h1) (by
    exact⟨rfl,rfl,rfl,b',o',size,S',rfl,g1,g2,g3,g4,g5,ai.any _ _ _ _ _ _ _ g6⟩) (fun b base size' e'=>by
    cases e'
    simp only[KB] at hKB
    exact hKB.1 _ _ e)
   refine go (.mptr (d,j) g 0 0) [.n (d,j) (.box g cells)] (j+1) _ _ hr hl ?_ (fun κ b hb=>?_) hh
   ·simp only[CR,az,eG]
    exact⟨qzi _,fun _=>by rw[e];simp,_,e⟩
   ·by_cases ex:κ=(d,j)
    ·subst ex;rw[az] at hb;exact .inr hb
    ·rw[aN _ _ ex] at hb;exact .inl hb
  |agg cs=>
   simp only[CR] at hx
   obtain⟨vs,rfl,hx⟩:=hx
   obtain⟨ws,as,Λ2,F2,r1,r2,r3,r4,r5⟩:=ne d n j cs vs _ σ Λ F T1 _ h (by simp only[KB] at hKB;exact hKB.1 vs rfl) hx (hH.le h1) hh
   exact go (.agg as) ws _ Λ2 F2 r2 r3 (by simp only[CR];exact⟨vs,rfl,r4⟩) r5 r1
  |tup cs=>
   simp only[CR] at hx
   obtain⟨vs,rfl,hx⟩:=hx
   obtain⟨ws,as,Λ2,F2,r1,r2,r3,r4,r5⟩:=ne d n j cs vs _ σ Λ F T1 _ h (by simp only[KB] at hKB;exact hKB.1 vs rfl) hx (hH.le h1) hh
   exact go (.tup as) ws _ Λ2 F2 r2 r3 (by simp only[CR];exact⟨vs,rfl,r4⟩) r5 r1

/-- a call that is followed into its code -/
def INg (P:Program):Option Nat→FuncId→List A→St→(List W→Prop)→Prop:=fun d f as σ K=>∀(ρ:Env) (o:Oper) (a:Act) (w:World) (imm:Set) (Λ:Lam) (F:Key→Set) (us:List Value) (Q:Exit→Act→World→Prop),aD ρ σ a w imm Λ F→o.dst=d→(∀t,o.dst=some t→t<ρ.n)→af w imm (some Λ) as us Set.no→
 (Eq P f→(execOp a.eval o).run P w= .ok (.enter f us.toArray) w)→bG P ρ σ K o a w Q
def INr (P:Program) (f:FuncId) (as:List A) (H:List (Key×HN)) (r:A):Prop:=∀(σ:St) (d:Option Nat) (K:List W→Prop),(∀x∈H,lkN σ.heap x.1.1 x.1.2=x.2)→K (Vm.put d r)→INg P d f as σ K
def INc (P:Program):InT:=⟨INg P,INr P⟩
theorem uD {σ:St} {K:List W→Prop} {k:List (Key×HN)→Pg}:∀(ks:List Key) (acc:List (Key×HN)),(∀x∈acc,lkN σ.heap x.1.1 x.1.2=x.2)→(wb ks acc k).holds σ K→∃H,(∀x∈H,lkN σ.heap x.1.1 x.1.2=x.2)∧(k H).holds σ K
 |[],acc,h,hh=>⟨acc,h,hh⟩
 |κ::ks,acc,h,hh=>uD ks _ (fun x hx=>by
   rcases qzo.1 hx with rfl|hx
   ·rfl
   ·exact h x hx) hh
/-- the nodes as they are known when the call is over -/
def seen (Λ:Lam) (σ:St):Lam:=fun κ=>match lkN σ.heap κ.1 κ.2 with
 | .dead _=>{ Λ κ with loc:=.gone }
 |_=>Λ κ
theorem Dd (Λ:Lam) (σ:St):bF Λ (seen Λ σ):=fun κ=>by
 unfold seen
 split
 ·exact⟨qzi _,fun _=>.inl rfl⟩
 ·exact⟨qzi _,fun _=>.inr rfl⟩
theorem fh.seen {w':World} (h:fh pk σ Λ Pool σ1 w' imm F) (κ:Key):NR w' imm (seen Λ σ1) (seen Λ σ1 κ) (lkN σ1.heap κ.1 κ.2) (F κ):=by
 have hn:=h.nodes κ
 have hl:=Dd Λ σ1
 unfold Vm.seen at hl⊢
 generalize hnd:lkN σ1.heap κ.1 κ.2=nd at hn⊢
 rcases hn with rfl|hn
 ·exact⟨rfl,rfl⟩
 ·cases nd with
  |dead g=>exact⟨hn.1,rfl⟩
  |_=>exact hn.le hl

theorem Dk (h:aD ρ σ a w imm Λ F) (hd:∀t,o.dst=some t→t<ρ.n) {f:FuncId} {as:List A} {us:List Value} (hv:af w imm (some Λ) as us Set.no)
  (hex:Eq P f→(execOp a.eval o).run P w= .ok (.enter f us.toArray) w) (hh:(Bx E (au (ah P) LW (INc P)) o.dst f as).holds σ K):bG P ρ σ K o a w Q:=by
 unfold Bx at hh
 cases hI:BD f E.inl with
 |true=>rw[hI] at hh;exact hh ρ o a w imm Λ F us Q h rfl hd hv hex
 |false=>
 rw[hI] at hh
 simp only[cond] at hh
 cases hR:BD f E.ro with
 |true=>
  rw[hR] at hh
  obtain⟨ks,hh⟩:=hh
  obtain⟨H,hH,r,hr,hk⟩:=uD ks [] (fun x hx=>by cases hx) hh
  exact hr σ o.dst K hH hk ρ o a w imm Λ F us Q h rfl hd hv hex
 |false=>
 rw[hR] at hh
 simp only at hh
 have hP0:fh (ρ.kept w) σ Λ (fun b=>∃κ,F κ b) σ w imm F:=⟨fun _=>rfl,fun κ=>.inr (h.nodes κ),h.dis,h.fimm,fun κ b hb=>⟨κ,hb⟩,h.rs⟩
 obtain⟨ws,ds,imm1,F1,S,r1,r2,r3,r4,r5,r6,r7,r8,r9⟩:=kk _ _ us _ σ imm F _ hP0 hv hh
 obtain⟨post,r,hF,hk⟩:=r1
 have him1:∀b,imm1 b→b<w.heap.size:=fun b hb=>by
  rcases r6 b hb with h'|⟨κ,h'⟩
  ·exact(h.immlt b h').1
  ·exact(h.flt κ b h').1
 have hS1:∀b,S b→b<w.heap.size:=fun b hb=>by obtain⟨κ,h'⟩:=r8 b hb;exact(h.flt κ b h').1
 refine .inl ?_
 simp only[Oper.wp,hex hF.1,Oper.upon]
 refine Calls.mono' (hF.2 w imm1 S us r4 r5.imm him1 hS1) ?_
 intro e w' hR
 cases e with
 |panicked ch=>exact hR.elim
 |outgrown=>exact hR.elim
 |returned v=>
  obtain⟨imm2,T1,T2,i1,i2,i3,i4,i5,i6,i7,i8,i9,i10,i11,i12,i13,i14,i15,i16⟩:=hR
  have hst:∀b o n,tF w w' ds us b o n→ρ.kept w' b o n:=fun b o n hs=>by
   rcases hs with hs|⟨hs,hq⟩
   ·exact .inl (qzz h.grow hs)
   ·exact(KB.was ds us (bE.kb as ds us r9 hv) hs).imp id fun hk=>⟨hk.1,fun q hq'=>(hq q hq').trans (hk.2 q hq')⟩
  replace i16:=KB.mono hst _ _ i16
  have hFlt:∀κ b,F1 κ b→b<w.heap.size:=fun κ b hb=>(h.flt κ b (r7 κ b hb)).1
  have hFi:∀κ,Set.dis (F1 κ) imm2:=fun κ b hb hi=>by
   rcases (i8 b hi).2 with h'|h'|h'
   ·exact r2.fimm κ b hb h'
   ·exact r5.dis κ b h' hb
   ·have:=hFlt κ b hb;omega
  have hP2:fh (ρ.kept w') σ Λ (fun b=>(∃κ,F κ b)∨(w.heap.size≤b∧b<w'.heap.size)) (σ.upd ws) w' imm2 F1:=
   ⟨r2.slots,fun κ=>(r2.nodes κ).imp id (fun hN=>NR.stable i1 (fun b hb=>i9 b (him1 b hb) (fun hs=>r5.imm b hs hb)) (fun b hb=>i9 b (hFlt κ b hb) (fun hs=>r5.dis κ b hs hb)) (bF.refl Λ) hN),r2.dis,hFi,fun κ b hb=>.inl ⟨κ,r7 κ b hb⟩,fun κ=>by
    have h1:=r2.rs κ
    rcases r2.nodes κ with h2|h2
    ·rw[h2];trivial
    ·exact h1.imp h2 fun b o n hb hk=>hk.same (i9 b (hFlt κ b hb) (fun hs=>r5.dis κ b hs hb))⟩
  have hH:∀T:Set,(∀b,T b→b<w'.heap.size∧(S b∨w.heap.size≤b))→Set.dis T imm2→cY F1 imm2 (fun b=>(∃κ,F κ b)∨(w.heap.size≤b∧b<w'.heap.size)) T:=fun T hT hTi=>
   ⟨fun κ b hb hb2=>by
    rcases (hT b hb).2 with h'|h'
    ·exact r5.dis κ b h' hb2
    ·have:=hFlt κ b hb2;omega,hTi,fun b hb=>by
    rcases hT b hb with⟨h1,h'|h'⟩
    ·exact .inl (r8 b h')
    ·exact .inr ⟨h',h1⟩⟩
  have hT1:=hH T1 (fun b hb=>i7 b (.inl hb)) i5
  have hT2:=hH T2 (fun b hb=>i7 b (.inr hb)) i6
  obtain⟨ws2,F2,q1,q2,q3⟩:=iZ i14 (fun b o n hk hs=>hs.elim (fun h1=>.inl (qzz h.grow h1)) fun hq=>hk.imp id fun hk=>⟨hk.1,fun q hq'=>(hq q hq').trans (hk.2 q hq')⟩) as ds post us _ F1 T1 _ _ hP2 r9 i15 hv i2 hT1 hk
  have hR2:aD ρ ((σ.upd ws).upd ws2) a w' imm2 (seen Λ ((σ.upd ws).upd ws2)) F2:=by
   refine h.step q2.slots (Set.le_trans r3 i1) (fun b hb=>i9 b (h.immlt b hb).1 (fun hs=>r5.imm b hs (r3 b hb))) i10 (fun b hb hno=>i9 b hb (fun hs=>hno (r8 b hs))) (Dd _ _) q2.seen q2.dis q2.fimm (fun κ b hb=>q2.pool κ b hb) (fun b hb=>?_) ⟨i11,i12,i13,i14⟩ (fun κ=>by
    have h1:=q2.rs κ
    unfold seen
    generalize lkN ((σ.upd ws).upd ws2).heap κ.1 κ.2=nd at h1⊢
    cases nd <;> first|trivial|exact h1)
   obtain⟨h1,h'|h'|h'⟩:=i8 b hb
   ·exact(r6 b h').imp id .inl
   ·exact .inr (.inl (r8 b h'))
   ·exact .inr (.inr ⟨h',h1⟩)
  cases hod:o.dst with
  |none=>
   rw[hod] at q1
   exact⟨_,q1,imm2,_,F2,by rw[qzT,bo];exact hR2⟩
  |some d=>
   rw[hod] at q1
   have hHm:cY F2 imm2 (xq ρ w') T2:=⟨fun κ b hb hb2=>by
     rcases q3 κ b hb2 with h'|h'
     ·exact hT2.dis κ b hb h'
     ·exact i4 b h' hb,i6,fun b hb=>by
     refine⟨(i7 b (.inr hb)).1,?_⟩
     rcases (i7 b (.inr hb)).2 with h'|h'
     ·obtain⟨κ,h'⟩:=r8 b h';exact(h.flt κ b h').2
     ·exact .inr (qzz h.grow h')⟩
   obtain⟨ws3,as3,Λ3,F3,p1,p2,p3,p4,p5⟩:=ne d 40 0 [r] [v] _ _ _ F2 T2 _ hR2 i16 (af.of_one i3) hHm q1
   obtain⟨c,rfl,hc⟩:=af.single p4
   refine⟨_,p1,imm2,Λ3,F3,?_⟩
   have:=p2.put (d:=some d) (fun t ht=>by cases ht;exact hd d hod) hc
   simp only[bo] at this⊢
   exact this
end
end Go.Vm
/- All operations. -/
namespace Go.Vm
section
variable {P:Program} {E:TE} {LW:Code→(Ex→St→Prop)→St→Prop} {w:World} {σ:St} {Λ:Lam} {imm:Set} {F:Key→Set} {ρ:Env} {K:List W→Prop} {o:Oper} {a:Act} {Q:Exit→Act→World→Prop}

theorem af.append {x:Option Lam}:∀{cs ds:List A} {vs us:List Value},af w imm x cs vs Set.no→af w imm x ds us Set.no→af w imm x (cs++ds) (vs++us) Set.no:=
 fun h h'=>af.join h h' (Set.le_refl _) (Set.le_refl _) (Set.no_dis _)

theorem AD {f:FuncId} (h:Eq P f) (args:Array Value):(callFunc f args).run P w= .ok (.enter f args) w:=by
 obtain⟨fn,h1,h2,h3⟩:=h
 have h2' : ¬ fn.name = "runtime.NumGoroutine" := by simpa using h2
 have h3':¬fn.body=none:=by intro e;rw[e] at h3;simp at h3
 simp[callFunc,h1,h2',h3']

theorem AK (hE:EOk P E) (h:aD ρ σ a w imm Λ F) (hd:∀t,o.dst=some t→t<ρ.n) (hh:(mj E (au (ah P) LW (INc P)) o.dst o.op).holds σ K):bG P ρ σ K o a w Q:=by
 cases hop:o.op with
 |move x=>rw[hop] at hh;exact vO h hd (.inl hop) hh
 |assign x=>rw[hop] at hh;exact vO h hd (.inr hop) hh
 |pick c x y=>rw[hop] at hh;exact Dv h hd hop hh
 |alloc t=>rw[hop] at hh;exact Cz hE h hd hop hh
 |box t x=>rw[hop] at hh;exact CA hE h hd hop hh
 |build t ps=>rw[hop] at hh;exact CF hE h hd hop hh
 |buildSlice t n ps=>rw[hop] at hh;exact vh hE h hd hop hh
 |load t x=>rw[hop] at hh;exact DS hE h hd hop hh
 |store t x y=>rw[hop] at hh;exact Cv hE h hop hh
 |nilCheck x=>rw[hop] at hh;exact xM h hd hop hh
 |binOp op t x y t'=>rw[hop] at hh;exact Fw hE h hd hop hh
 |unOp op t x=>rw[hop] at hh;exact FW h hd hop hh
 |convert s t x=>rw[hop] at hh;exact DW hE h hd hop hh
 |makeFunc f first cap=>
  rw[hop] at hh
  cases f with
  |func f=>exact yv h hd hop hh
  |_=>exact hh.elim
 |makeSlice t l c=>rw[hop] at hh;exact wX hE h hd hop hh
 |slice t x l r m=>rw[hop] at hh;exact Cw hE h hd hop hh
 |fieldAddr s x f=>rw[hop] at hh;exact CE hE h hd hop hh
 |indexAddr t x i=>rw[hop] at hh;exact Cy hE h hd hop hh
 |index t x i=>rw[hop] at hh;exact AE hE h hd hop hh
 |field s x f=>rw[hop] at hh;exact BS hE h hd hop hh
 |extract x i=>rw[hop] at hh;exact zF h hd hop hh
 |call c=>
  rw[hop] at hh
  simp only[mj] at hh
  split at hh
  ·rename_i f hcal
   obtain⟨f',hf,hh1⟩:=h.opd hh
   clear hh
   obtain⟨ys,hys,hh2⟩:=h.opds hh1
   clear hh1
   split at hh2
   ·rename_i g cs
    simp only[CR] at hf
    obtain⟨vs,hfv,hcs⟩:=hf
    refine Dk h hd (af.append hys hcs) (fun hb=>?_) hh2
    simp only[execOp,hop,resolve,hcal,Sem.run_bind,Deferred.ofValue,hfv,Sem.run_pure,Result.andThen_ok,invoke,Array.empty_append]
    rw[show c.args.map a.eval++vs.toArray=(c.args.toList.map a.eval++vs).toArray from Array.ext' (by simp)]
    exact AD hb _
   ·exact hh2.elim
  ·rename_i hcal
   split at hh
   ·rename_i x t hx ht;exact E6 hE h hd hop hcal hx ht hh
   ·exact hh.elim
  ·rename_i hcal
   split at hh
   ·rename_i x y t s hx ht
    split at hh
    ·rename_i hs;exact Bw hE h hd hop hcal hx ht hs hh
    ·exact hh.elim
   ·exact hh.elim
  ·rename_i hcal
   split at hh
   ·rename_i x y hx;exact sj (mx:=false) h hd hop hx hcal hh
   ·exact hh.elim
  ·rename_i hcal
   split at hh
   ·rename_i x y hx;exact sj (mx:=true) h hd hop hx hcal hh
   ·exact hh.elim
  ·exact hh.elim
 |_=>rw[hop] at hh;exact hh.elim
end
end Go.Vm
/- Regions. -/
namespace Go.Vm
section
variable {P:Program} {E:TE} {LW:Code→(Ex→St→Prop)→St→Prop} {w:World} {σ:St} {Λ:Lam} {imm:Set} {F:Key→Set} {ρ:Env} {o:Oper} {a:Act} {Q:Exit→Act→World→Prop}

theorem aD.slotv (h:aD ρ σ a w imm Λ F) {g:Nat} {b:Bool} (hlt:g<ρ.n) (hg:lkS σ.slots g= .lit (.bool b)):a.tmps[g]? =some (.bool b):=by
 have:=h.slots g
 have hn:=h.nlt
 unfold Vm.slotv at this
 rw[if_pos qom] at this
 rw[hg] at this
 have h2:=bM this
 rw[qzr] at h2
 cases hq:a.tmps[g]? with
 |none=>rw[hq] at h2;simp[undef] at h2
 |some v=>rw[hq] at h2;simp at h2;rw[h2]
theorem Rel.same {σ':St} (h:Rel ρ σ a w) (hs:∀t,lkS σ'.slots t=lkS σ.slots t) (hn:∀κ:Key,lkN σ'.heap κ.1 κ.2=lkN σ.heap κ.1 κ.2):Rel ρ σ' a w:=by
 obtain⟨imm,Λ,F,h⟩:=h
 exact⟨imm,Λ,F,h.congr hs hn⟩
theorem Rel.unset (h:Rel ρ σ a w) {d:Option Nat} (hd:∀t,d=some t→t<ρ.n):Rel ρ (σ.upd (put d unset)) (a.put d undef) w:=by
 obtain⟨imm,Λ,F,h⟩:=h
 exact⟨imm,Λ,F,h.put hd (by simp only[CR];rfl)⟩
theorem aD.slotu (h:aD ρ σ a w imm Λ F) {g:Nat} {u:Array Value} (hlt:g<ρ.n) (hg:lkS σ.slots g= .lit (.tuple u)):a.tmps[g]? =some (.tuple u):=by
 have:=h.slots g
 have hn:=h.nlt
 unfold Vm.slotv at this
 rw[if_pos qom] at this
 rw[hg] at this
 have h2:=bM this
 have hs:=h.size
 rw[qzr] at h2
 have hq:a.tmps[g]? =some a.tmps[g]:=by simp[hs,hlt]
 rw[hq] at h2⊢
 simp at h2
 rw[h2]
theorem wo {ops:Array Oper} {j g:Nat} {want:Bool} {u:Array Value} (hgd:o.guard=some (j,want)) (hj:(ops.toList[j]?).bind (·.dst)=some g) (hv:a.tmps[g]? =some (.tuple u)):Region.wanted o (yielded ops a.tmps)=false:=by
 have hy:yielded ops a.tmps j=none:=by
  simp only[yielded]
  rw[←sv,hj]
  simp[hv]
 simp only[Region.wanted,hgd,hy]
 rfl
theorem uq {ops:Array Oper} {j g:Nat} {want b:Bool} (hgd:o.guard=some (j,want)) (hj:(ops.toList[j]?).bind (·.dst)=some g) (hv:a.tmps[g]? =some (.bool b)):Region.wanted o (yielded ops a.tmps)=(b==want):=by
 have hy:yielded ops a.tmps j=some b:=by
  simp only[yielded]
  rw[←sv,hj]
  simp[hv]
 simp only[Region.wanted,hgd,hy]
 cases b <;> cases want <;> rfl

theorem rf {ops:Array Oper} (hd:∀o∈ops.toList,∀t,o.dst=some t→t<ρ.n) {j g:Nat} (hj:(ops.toList[j]?).bind (·.dst)=some g):g<ρ.n:=by
 rw[Option.bind_eq_some_iff] at hj
 obtain⟨o,h1,h2⟩:=hj
 exact hd o (qzI h1) g h2

theorem my (hE:EOk P E) {ops:Array Oper} {K:St→Prop} (hK:∀a w σ,K σ→Rel ρ σ a w→Q .normal a w):∀(l:List Oper) (σ:St) (a:Act) (w:World),(∀o∈ops.toList,∀t,o.dst=some t→t<ρ.n)→(∀o∈l,o∈ops.toList)→
  Vm.wpOps E (au (ah P) LW (INc P)) ops.toList K l σ→Rel ρ σ a w→wpList P ops Q l a w
 |[],σ,a,w,_,_,hh,h=>hK a w σ hh h
 |o::rest,σ,a,w,hd,hl,hh,h=>by
  have ih:=my hE (ops:=ops) hK rest
  have hl':∀o∈rest,o∈ops.toList:=fun o ho=>hl o (qzv _ ho)
  have hdo:=hd o (hl o qzx)
  have step:∀(σ1:St),Rel ρ σ1 a w→(mj E (au (ah P) LW (INc P)) o.dst o.op).holds σ1 (fun ws=>Vm.wpOps E (au (ah P) LW (INc P)) ops.toList K rest (σ1.upd ws))→o.wp P a w (wpList P ops Q rest) Q∨(o.asks P a w∧LetsOut Q):=by
   rintro σ1 ⟨imm,Λ,F,h⟩ hh
   exact(AK hE h hdo hh).imp (Oper.wp_mono fun a w ⟨ws,h1,h2⟩=>ih _ a w hd hl' h1 h2) id
  simp only[Vm.wpOps] at hh
  simp only[wpList]
  split at hh
  ·rename_i hgd
   have hw:Region.wanted o (yielded ops a.tmps)=true:=by simp[Region.wanted,hgd]
   rw[if_pos hw]
   exact step σ h hh
  ·rename_i j want hgd
   split at hh
   ·exact hh.elim
   ·rename_i g hj
    split at hh
    ·rename_i b hg
     obtain⟨imm,Λ,F,hX⟩:=h
     have hw:=uq hgd hj (hX.slotv (rf hd hj) hg)
     rw[hw]
     have hole:=fun hh=>ih _ _ _ hd hl' hh (Rel.unset ⟨imm,Λ,F,hX⟩ hdo)
     cases want <;> cases b
     ·exact(if_pos (c:=(false==false)=true) rfl).symm▸step σ ⟨imm,Λ,F,hX⟩ hh
     ·exact hole hh
     ·exact hole hh
     ·exact step σ ⟨imm,Λ,F,hX⟩ hh
    ·rename_i u hg
     obtain⟨imm,Λ,F,hX⟩:=h
     rw[wo hgd hj (hX.slotu (rf hd hj) hg)]
     exact ih _ _ _ hd hl' hh (Rel.unset ⟨imm,Λ,F,hX⟩ hdo)
    ·exact hh.elim

/-! ### regions whose order is drawn -/

def atL (σ:St):L→A ⊕ HN
 | .s t=>.inl (lkS σ.slots t)
 | .n κ=>.inr (lkN σ.heap κ.1 κ.2)
/-- the states answer alike -/
def iX (σ τ:St):Prop:=∀x,atL σ x=atL τ x

theorem L.is_iff:∀x y:L,x.is y=true↔x=y
 | .s t,.s u=>by simp[L.is]
 | .n κ,.n κ'=>by
  obtain⟨a,b⟩:=κ
  obtain⟨c,d⟩:=κ'
  simp[L.is]
 | .s _,.n _=>by simp[L.is]
 | .n _,.s _=>by simp[L.is]
theorem uZ (x:L):∀l,yB x l=true↔x∈l
 |[]=>by simp[yB]
 |y::l=>by
  simp only[yB]
  by_cases h:x.is y=true
  ·rw[if_pos h];simp[(L.is_iff x y).1 h]
  ·rw[if_neg h,uZ x l]
   have:x≠y:=fun e=>h ((L.is_iff x y).2 e)
   simp[this]
theorem nI:∀l l',oh l l'=true↔∀x∈l,x∉l'
 |[],l'=>by simp[oh]
 |x::l,l'=>by
  simp only[oh]
  by_cases h:yB x l'=true
  ·rw[if_pos h];simp[(uZ x l').1 h]
  ·rw[if_neg h,nI l l']
   have:x∉l':=fun e=>h ((uZ x l').2 e)
   simp[this]
theorem rt (x:Nat):∀l,ni x l=true↔x∈l
 |[]=>by simp[ni]
 |y::l=>by
  simp only[ni]
  by_cases h:Nat.beq x y=true
  ·rw[if_pos h];simp[qzW h]
  ·rw[if_neg h,rt x l]
   have:x≠y:=fun e=>h (by subst e;exact Nat.beq_refl x)
   simp[this]

instance:DecidableEq L:=fun x y=>if h:x.is y=true then .isTrue ((L.is_iff x y).1 h) else .isFalse (fun e=>h ((L.is_iff x y).2 e))

theorem oD (σ:St) (v:W) (x:L):atL (σ.upd1 v) x=if v.loc=x then(match v with| .s _ a=>.inl a| .n _ h=>.inr h) else atL σ x:=by
 cases v with
 |s t a=>
  cases x with
  |s u=>
   show Sum.inl (lkS ((t,a)::σ.slots) u)=_
   rw[dD]
   simp only[W.loc,L.s.injEq,atL]
   by_cases h:u=t
   ·subst h;simp
   ·rw[if_neg h,if_neg (fun e=>h e.symm)]
  |n κ=>simp only[W.loc,reduceCtorEq,if_false];rfl
 |n κ h=>
  cases x with
  |s u=>simp only[W.loc,reduceCtorEq,if_false];rfl
  |n κ'=>
   show Sum.inr (lkN ((κ,h)::σ.heap) κ'.1 κ'.2)=_
   rw[aP]
   simp only[W.loc,L.n.injEq,atL]
   by_cases e:κ'=κ
   ·subst e;simp
   ·rw[if_neg e,if_neg (fun e'=>e e'.symm)]
theorem kY {x:L}:∀(ws:List W) {σ τ:St},atL σ x=atL τ x→atL (σ.upd ws) x=atL (τ.upd ws) x
 |[],_,_,h=>h
 |v::ws,σ,τ,h=>kY ws (by rw[oD,oD,h])
theorem gt {x:L}:∀(ws:List W) {σ:St},x∉ef ws→atL (σ.upd ws) x=atL σ x
 |[],_,_=>rfl
 |v::ws,σ,h=>by
  simp only[ef,qzo,not_or] at h
  show atL ((σ.upd1 v).upd ws) x=_
  rw[gt ws h.2,oD,if_neg (fun e=>h.1 e.symm)]
theorem we {x:L}:∀(ws:List W) {σ τ:St},x∈ef ws→atL (σ.upd ws) x=atL (τ.upd ws) x
 |[],_,_,h=>by simp[ef] at h
 |v::ws,σ,τ,h=>by
  show atL ((σ.upd1 v).upd ws) x=atL ((τ.upd1 v).upd ws) x
  by_cases h':x∈ef ws
  ·exact we ws h'
  ·simp only[ef,qzo] at h
   rw[gt ws h',gt ws h',oD,oD]
   have:v.loc=x:=(h.resolve_right h').symm
   rw[if_pos this,if_pos this]
theorem iX.upd {σ τ:St} (h:iX σ τ) (ws:List W):iX (σ.upd ws) (τ.upd ws):=fun x=>kY ws (h x)
theorem FZ {σ:St} {ws ws':List W} (h:∀x∈ef ws,x∉ef ws'):iX ((σ.upd ws).upd ws') ((σ.upd ws').upd ws):=fun x=>by
 by_cases h1:x∈ef ws
 ·rw[gt ws' (h x h1)]
  exact we ws h1
 ·rw[gt ws h1]
  exact kY ws' (gt ws h1)

/-- one way through a program: what is read, what is written -/
inductive Run:Pg→St→List L→List W→Prop
 |done (ws:List W) (σ:St):Run (.done ws) σ [] ws
 |gs {t:Nat} {f:A→Pg} {σ:St} {R:List L} {ws:List W}:Run (f (lkS σ.slots t)) σ R ws→Run (.gs t f) σ (.s t::R) ws
 |gn {κ:Key} {f:HN→Pg} {σ:St} {R:List L} {ws:List W}:Run (f (lkN σ.heap κ.1 κ.2)) σ R ws→Run (.gn κ f) σ (.n κ::R) ws
 |need {φ:Prop} {p:Pg} {σ:St} {R:List L} {ws:List W}:φ→Run p σ R ws→Run (.need φ p) σ R ws
 |ex {α:Type} {f:α→Pg} {σ:St} {R:List L} {ws:List W} (x:α):Run (f x) σ R ws→Run (.ex α f) σ R ws
 |yes {p q:Pg} {σ:St} {R:List L} {ws:List W}:Run p σ R ws→Run (.br true p q) σ R ws
 |no {p q:Pg} {σ:St} {R:List L} {ws:List W}:Run q σ R ws→Run (.br false p q) σ R ws
 |wr {ws1:List W} {p:Pg} {σ:St} {R:List L} {ws:List W}:Run p (σ.upd ws1) R ws→Run (.wr ws1 p) σ R (ws1++ws)

theorem Run.holds {p:Pg} {σ:St} {R:List L} {ws:List W} (h:Run p σ R ws):∀{K:List W→Prop},K ws→p.holds σ K:=by
 induction h with
 |done=>exact fun hK=>hK
 |gs _ ih=>exact ih
 |gn _ ih=>exact ih
 |need hφ _ ih=>exact fun hK=>⟨hφ,ih hK⟩
 |ex x _ ih=>exact fun hK=>⟨x,ih hK⟩
 |yes _ ih=>exact fun hK=>ih hK
 |no _ ih=>exact fun hK=>ih hK
 |wr _ ih=>exact fun{K} hK=>ih (K:=fun ws2=>K (_++ws2)) hK
theorem Run.agree {p:Pg} {σ:St} {R:List L} {ws:List W} (h:Run p σ R ws):∀{τ:St},(∀x∈R,atL σ x=atL τ x)→Run p τ R ws:=by
 induction h with
 |done=>exact fun _=>.done _ _
 |gs h ih=>
  intro τ hR
  have h1:=hR _ qzx
  simp only[atL,Sum.inl.injEq] at h1
  refine .gs ?_
  rw[←h1]
  exact ih (fun x hx=>hR x (qzv _ hx))
 |gn h ih=>
  intro τ hR
  have h1:=hR _ qzx
  simp only[atL,Sum.inr.injEq] at h1
  refine .gn ?_
  rw[←h1]
  exact ih (fun x hx=>hR x (qzv _ hx))
 |need hφ _ ih=>exact fun hR=>.need hφ (ih hR)
 |ex x _ ih=>exact fun hR=>.ex x (ih hR)
 |yes _ ih=>exact fun hR=>.yes (ih hR)
 |no _ ih=>exact fun hR=>.no (ih hR)
 |wr _ ih=>exact fun hR=>.wr (ih (fun x hx=>kY _ (hR x hx)))
theorem C5:∀{p:Pg} {σ:St} {R0:List L} {K:List W→List L→Prop},p.log σ R0 K→∃R ws R',Run p σ R ws∧K ws R'∧(∀x∈R,x∈R')∧∀x∈R0,x∈R':=by
 intro p
 induction p with
 |fail=>exact fun h=>h.elim
 |done ws=>exact fun{σ R0 K} h=>⟨[],ws,R0,.done _ _,h,by simp,fun _ h=>h⟩
 |gs t f ih=>
  intro σ R0 K h
  obtain⟨R,ws,R',h1,h2,h3,h4⟩:=ih _ h
  refine⟨_,ws,R',.gs h1,h2,fun x hx=>?_,fun x hx=>h4 x (qzv _ hx)⟩
  rcases qzo.1 hx with rfl|hx
  ·exact h4 _ qzx
  ·exact h3 x hx
 |gn κ f ih=>
  intro σ R0 K h
  obtain⟨R,ws,R',h1,h2,h3,h4⟩:=ih _ h
  refine⟨_,ws,R',.gn h1,h2,fun x hx=>?_,fun x hx=>h4 x (qzv _ hx)⟩
  rcases qzo.1 hx with rfl|hx
  ·exact h4 _ qzx
  ·exact h3 x hx
 |need φ p ih=>
  intro σ R0 K h
  obtain⟨R,ws,R',h1,h2⟩:=ih h.2
  exact⟨R,ws,R',.need h.1 h1,h2⟩
 |ex α f ih=>
  intro σ R0 K h
  obtain⟨x,h⟩:=h
  obtain⟨R,ws,R',h1,h2⟩:=ih x h
  exact⟨R,ws,R',.ex x h1,h2⟩
 |br b p q ihp ihq=>
  intro σ R0 K h
  cases b with
  |true=>obtain⟨R,ws,R',h1,h2⟩:=ihp h;exact⟨R,ws,R',.yes h1,h2⟩
  |false=>obtain⟨R,ws,R',h1,h2⟩:=ihq h;exact⟨R,ws,R',.no h1,h2⟩
 |al φ f ih=>exact fun h=>h.elim
 |opq Φ=>exact fun h=>h.elim
 |wr ws p ih=>
  intro σ R0 K h
  obtain⟨R,ws',R',h1,h2⟩:=ih h
  exact⟨R,_,R',.wr h1,h2⟩

/-- an operation with its guard -/
def gPg (E:TE) (C:Ctx) (ops:List Oper) (o:Oper):Pg:=match o.guard with
 |none=>mj E C o.dst o.op
 |some (j,want)=>match(ops[j]?).bind (·.dst) with
  |none=>.fail
  |some g=>.gs g fun v=>match v with
   | .lit (.bool b)=>if b=want then mj E C o.dst o.op else .done (put o.dst unset)
   | .lit (.tuple _)=>.done (put o.dst unset)
   |_=>.fail

structure nB where
 i:Nat
 R:List L
 ws:List W
inductive ip (E:TE) (C:Ctx) (ops:List Oper):St→List nB→St→Prop
 |nil (σ:St):ip E C ops σ [] σ
 |cons {σ τ:St} {e:nB} {l:List nB} {o:Oper}:ops[e.i]? =some o→Run (gPg E C ops o) σ e.R e.ws→ip E C ops (σ.upd e.ws) l τ→ip E C ops σ (e::l) τ

def wG (e f:nB):Prop:=(∀x∈ef e.ws,x∉f.R)∧(∀x∈ef e.ws,x∉ef f.ws)∧∀x∈ef f.ws,x∉e.R

theorem ip.like {C:Ctx} {ops:List Oper} {σ τ:St} {l:List nB} (h:ip E C ops σ l τ):∀{σ':St},iX σ σ'→∃τ',ip E C ops σ' l τ'∧iX τ τ':=by
 induction h with
 |nil σ=>exact fun{σ'} h=>⟨σ',.nil _,h⟩
 |cons ho hr _ ih=>
  intro σ' hl
  obtain⟨τ',h1,h2⟩:=ih (hl.upd _)
  exact⟨τ',.cons ho (hr.agree (fun x _=>hl x)) h1,h2⟩
theorem ip.swap {C:Ctx} {ops:List Oper} {σ τ:St} {e f:nB} {l:List nB} (h:ip E C ops σ (e::f::l) τ) (hi:wG e f):∃τ',ip E C ops σ (f::e::l) τ'∧iX τ τ':=by
 cases h with
 |cons ho hr h=>
  cases h with
  |cons ho' hr' h=>
   obtain⟨h1,h2,h3⟩:=hi
   obtain⟨τ',hc,hl⟩:=h.like (FZ h2)
   refine⟨τ',.cons ho' (hr'.agree fun x hx=>gt _ (fun hx'=>h1 x hx' hx)) (.cons ho (hr.agree fun x hx=>(gt _ (fun hx'=>h3 x hx' hx)).symm) hc),hl⟩
theorem iX.trans {σ τ υ:St} (h:iX σ τ) (h':iX τ υ):iX σ υ:=fun x=>(h x).trans (h' x)
theorem ip.front {C:Ctx} {ops:List Oper} {e:nB} {l2:List nB}:∀(l1:List nB) {σ τ:St},ip E C ops σ (l1++e::l2) τ→(∀f∈l1,wG f e)→∃τ',ip E C ops σ (e::(l1++l2)) τ'∧iX τ τ'
 |[],σ,τ,h,_=>⟨τ,h,fun _=>rfl⟩
 |f::l1,σ,τ,h,hi=>by
  cases h with
  |cons ho hr h=>
   obtain⟨τ',hc,hl⟩:=ip.front l1 h (fun g hg=>hi g (qzv _ hg))
   obtain⟨τ2,hc2,hl2⟩:=ip.swap (.cons ho hr hc) (hi f qzx)
   exact⟨τ2,hc2,hl.trans hl2⟩
end
end Go.Vm
/- Regions whose order is drawn: every order does what the order of the text does. -/
namespace Go.Vm
section
variable {P:Program} {E:TE} {LW:Code→(Ex→St→Prop)→St→Prop} {w:World} {σ:St} {Λ:Lam} {imm:Set} {F:Key→Set} {ρ:Env} {o:Oper} {a:Act} {Q:Exit→Act→World→Prop}

def Dir (ops:List Oper) (i j:Nat):Prop:=∃o,ops[i]? =some o∧j∈ei o.after.toList
inductive Anc (ops:List Oper):Nat→Nat→Prop
 |one {i j:Nat}:Dir ops i j→Anc ops i j
 |more {i m j:Nat}:Dir ops i m→Anc ops m j→Anc ops i j

theorem oC {e:Edge}:∀{es:List Edge},e∈es→mu e=true→e.on∈ei es
 |x::es,h,hb=>by
  simp only[ei]
  rcases qzo.1 h with rfl|h
  ·rw[if_pos hb];exact qzx
  ·split
   ·exact qzv _ (oC h hb)
   ·exact oC h hb
theorem om {j:Nat}:∀{es:List Edge},j∈ei es→∃e∈es,mu e=true∧e.on=j
 |x::es,h=>by
  simp only[ei] at h
  split at h
  ·rename_i hb
   rcases qzo.1 h with rfl|h
   ·exact⟨x,qzx,hb,rfl⟩
   ·obtain⟨e,h1,h2⟩:=om h;exact⟨e,qzv _ h1,h2⟩
  ·obtain⟨e,h1,h2⟩:=om h;exact⟨e,qzv _ h1,h2⟩
theorem su (i:Nat):∀l,ri i l=true→∀j∈l,j<i
 |[],_,_,h=>by simp at h
 |x::l,h,j,hj=>by
  simp only[ri] at h
  split at h
  ·rename_i hb
   rcases qzo.1 hj with rfl|hj
   ·simpa [Nat.blt_eq] using hb
   ·exact su i l h j hj
  ·cases h

def Ao (ops:List Oper) (es:List Ent):Prop:=∀e∈es,∀j∈e.anc,Anc ops e.i j
theorem BR {ops:List Oper} {m j:Nat}:∀{es:List Ent},Ao ops es→j∈w7 m es→Anc ops m j
 |[],_,h=>by simp[w7] at h
 |e::es,ho,h=>by
  simp only[w7] at h
  split at h
  ·rename_i hb
   rw[←qzW hb]
   exact ho e qzx j h
  ·exact BR (fun e he=>ho e (qzv _ he)) h
theorem qZ {j:Nat}:∀{xs l:List Nat},j∈sO xs l→j∈xs∨j∈l
 |[],l,h=>.inr h
 |x::xs,l,h=>by
  simp only[sO] at h
  split at h
  ·exact(qZ h).imp (qzv _) id
  ·rcases qzo.1 h with rfl|h
   ·exact .inl qzx
   ·exact(qZ h).imp (qzv _) id
theorem xD {ops:List Oper} {i j:Nat} {es:List Ent} (ho:Ao ops es):∀{ds:List Nat},(∀m∈ds,Dir ops i m)→j∈nt es ds→Anc ops i j
 |[],_,h=>by simp[nt] at h
 |d::ds,hd,h=>by
  simp only[nt] at h
  rcases qZ h with h|h
  ·rcases qzo.1 h with rfl|h
   ·exact .one (hd _ qzx)
   ·exact .more (hd d qzx) (BR ho h)
  ·exact xD ho (fun m hm=>hd m (qzv _ hm)) h

def IndE (e:Ent) (f:nB):Prop:=(∀x∈e.wr,x∉f.R)∧(∀x∈e.wr,x∉ef f.ws)∧∀x∈ef f.ws,x∉e.rd
theorem oE {anc:List Nat} {rd wr:List L}:∀{es:List Ent},fD anc rd wr es=true→∀e∈es,e.i∈anc∨((∀x∈e.wr,x∉rd)∧(∀x∈e.wr,x∉wr)∧∀x∈wr,x∉e.rd)
 |[],_,e,h=>by simp at h
 |f::es,h,e,he=>by
  simp only[fD] at h
  split at h
  ·rename_i hn
   rcases qzo.1 he with rfl|he
   ·exact .inl ((rt _ _).1 hn)
   ·exact oE h e he
  ·split at h
   ·rename_i h1
    split at h
    ·rename_i h2
     split at h
     ·rename_i h3
      rcases qzo.1 he with rfl|he
      ·exact .inr ⟨(nI _ _).1 h1,(nI _ _).1 h2,(nI _ _).1 h3⟩
      ·exact oE h e he
     ·cases h
    ·cases h
   ·cases h

def tD (E:TE) (C:Ctx) (ops:List Oper) (K:St→Prop) (n i:Nat) (es:List Ent) (σ:St):Prop:=
 ∃l τ τ',ip E C ops σ l τ'∧iX τ τ'∧K τ∧l.map (·.i)=List.range' i n∧l.Pairwise (fun e f=>Anc ops f.i e.i∨wG e f)∧(∀e∈es,∀f∈l,Anc ops f.i e.i∨IndE e f)∧(∀f∈l,∀j,Dir ops f.i j→j<f.i)

theorem vM {C:Ctx} {ops:List Oper} {K:St→Prop}:∀(rest:List Oper) (i:Nat) (es:List Ent) (σ:St),gF E C ops K rest i es σ→Ao ops es→(∀j,rest[j]? =ops[i+j]?)→
  tD E C ops K rest.length i es σ
 |[],i,es,σ,hh,_,_=>⟨[],σ,σ,.nil _,fun _=>rfl,hh,by simp,by simp,by simp,by simp⟩
 |o::rest,i,es,σ,hh,hes,hops=>by
  have h0:ops[i]? =some o:=by simpa using (hops 0).symm
  have hops':∀j,rest[j]? =ops[i+1+j]? :=fun j=>by have:=hops (j+1);simpa [tq,Nat.add_comm 1 j] using this
  simp only[gF] at hh
  obtain⟨hbelow,hh⟩:=hh
  have hdir:∀m∈ei o.after.toList,Dir ops i m:=fun m hm=>⟨o,h0,hm⟩
  -- one pe, and those iM it
  have go:∀(R R':List L) (ws:List W) (σ1:St),Run (gPg E C ops o) σ R ws→(∀x∈R,x∈R')→fD (nt es (ei o.after.toList)) R' (ef ws) es=true→iX (σ1.upd ws) (σ.upd ws)→
    gF E C ops K rest (i+1) (⟨i,nt es (ei o.after.toList),R',ef ws⟩::es) (σ1.upd ws)→
    tD E C ops K (o::rest).length i es σ:=by
   intro R R' ws σ1 hrun hsub hap hlike hw
   have hes':Ao ops (⟨i,nt es (ei o.after.toList),R',ef ws⟩::es):=by
    intro e he
    rcases qzo.1 he with rfl|he
    ·exact fun j hj=>xD hes hdir hj
    ·exact hes e he
   obtain⟨l,τ,τ',r1,r2,r3,r4,r5,r6,r7⟩:=vM rest (i+1) _ _ hw hes' hops'
   obtain⟨τ2,q1,q2⟩:=r1.like hlike
   refine⟨⟨i,R,ws⟩::l,τ,τ2,.cons (e:=⟨i,R,ws⟩) h0 hrun q1,r2.trans q2,r3,?_,?_,?_,?_⟩
   ·simp[r4,rP]
   ·refine List.pairwise_cons.2 ⟨fun f hf=>?_,r5⟩
    rcases r6 _ qzx f hf with h|⟨h1,h2,h3⟩
    ·exact .inl h
    ·exact .inr ⟨h1,h2,fun x hx hR=>h3 x hx (hsub x hR)⟩
   ·intro e he f hf
    rcases qzo.1 hf with rfl|hf
    ·rcases oE hap e he with h|⟨h1,h2,h3⟩
     ·exact .inl (xD hes hdir h)
     ·exact .inr ⟨fun x hx hR=>h1 x hx (hsub x hR),h2,h3⟩
    ·exact r6 e (qzv _ he) f hf
   ·intro f hf j hj
    rcases qzo.1 hf with rfl|hf
    ·obtain⟨o',h1,h2⟩:=hj
     rw[h0] at h1
     cases h1
     exact su i _ hbelow j h2
    ·exact r7 f hf j hj
  split at hh
  ·rename_i hgd
   obtain⟨R,ws,R',h1,⟨h2,h3⟩,h4,_⟩:=C5 hh
   refine go R R' ws σ ?_ h4 h2 (fun _=>rfl) h3
   simp only[gPg,hgd]
   exact h1
  ·rename_i j want hgd
   split at hh
   ·exact hh.elim
   ·rename_i g hj
    split at hh
    ·rename_i b hg
     have run:b=want→(mj E C o.dst o.op).log σ [.s g] (fun ws R=>fD (nt es (ei o.after.toList)) R (ef ws) es=true∧gF E C ops K rest (i+1) (⟨i,nt es (ei o.after.toList),R,ef ws⟩::es) (σ.upd ws))→tD E C ops K (o::rest).length i es σ:=fun hb hq=>by
      subst hb
      obtain⟨R,ws,R',h1,⟨h2,h3⟩,h4,h5⟩:=C5 hq
      refine go (.s g::R) R' ws σ ?_ (fun x hx=>?_) h2 (fun x=>rfl) h3
      ·simp only[gPg,hgd,hj]
       refine .gs ?_
       rw[hg]
       simp only[if_true]
       exact h1
      ·rcases qzo.1 hx with rfl|hx
       ·exact h5 _ qzx
       ·exact h4 x hx
     have skip:b≠want→(fD (nt es (ei o.after.toList)) [.s g] (ef (put o.dst unset)) es=true∧gF E C ops K rest (i+1) (⟨i,nt es (ei o.after.toList),[.s g],ef (put o.dst unset)⟩::es) (σ.upd (put o.dst unset)))→tD E C ops K (o::rest).length i es σ:=fun hb hq=>by
      obtain⟨h2,h3⟩:=hq
      refine go [.s g] [.s g] (put o.dst unset) σ ?_ (fun x hx=>hx) h2 (fun x=>rfl) h3
      simp only[gPg,hgd,hj]
      refine .gs ?_
      rw[hg]
      simp only[if_neg hb]
      exact .done _ _
     cases want <;> cases b
     ·exact run rfl hh
     ·exact skip (by simp) hh
     ·exact skip (by simp) hh
     ·exact run rfl hh
    ·rename_i u hg
     obtain⟨h2,h3⟩:=hh
     refine go [.s g] [.s g] (put o.dst unset) σ ?_ (fun x hx=>hx) h2 (fun x=>rfl) h3
     simp only[gPg,hgd,hj]
     refine .gs ?_
     rw[hg]
     exact .done _ _
    ·exact hh.elim

theorem FC (hE:EOk P E) {ops:Array Oper} (hda:∀o∈ops.toList,∀t,o.dst=some t→t<ρ.n) (hd:∀t,o.dst=some t→t<ρ.n) {K:List W→Prop} {Kn:Act→World→Prop} {i:Nat} (hi:ops[i]? =some o) (hK:∀ws a w,K ws→Rel ρ (σ.upd ws) a w→Kn a w)
  (hh:(gPg E (au (ah P) LW (INc P)) ops.toList o).holds σ K) (h:Rel ρ σ a w):wpOp P ops Q i Kn a w:=by
 have step:(mj E (au (ah P) LW (INc P)) o.dst o.op).holds σ K→o.wp P a w Kn Q∨(o.asks P a w∧LetsOut Q):=fun hh=>by
  obtain⟨imm,Λ,F,hX⟩:=h
  exact(AK hE hX hd hh).imp (Oper.wp_mono fun a w ⟨ws,h1,h2⟩=>hK ws a w h1 h2) id
 simp only[wpOp,hi]
 unfold gPg at hh
 split at hh
 ·rename_i hgd
  have hw:Region.wanted o (yielded ops a.tmps)=true:=by simp[Region.wanted,hgd]
  rw[if_pos hw]
  exact step hh
 ·rename_i j want hgd
  split at hh
  ·exact hh.elim
  ·rename_i g hj
   simp only[Pg.holds] at hh
   split at hh
   ·rename_i b hg
    obtain⟨imm,Λ,F,hX⟩:=h
    have hw:=uq hgd hj (hX.slotv (rf hda hj) hg)
    rw[hw]
    split at hh
    ·rename_i hb
     subst hb
     rw[if_pos (by simp)]
     exact step hh
    ·rename_i hb
     rw[if_neg (by simpa using hb)]
     exact hK _ _ _ hh (Rel.unset ⟨imm,Λ,F,hX⟩ hd)
   ·rename_i u hg
    obtain⟨imm,Λ,F,hX⟩:=h
    rw[wo hgd hj (hX.slotu (rf hda hj) hg)]
    exact hK _ _ _ hh (Rel.unset ⟨imm,Λ,F,hX⟩ hd)
   ·exact hh.elim

theorem iX.rel {σ τ:St} (hl:iX σ τ) (h:Rel ρ σ a w):Rel ρ τ a w:=
 h.same (fun t=>by have:=hl (.s t);simp only[atL,Sum.inl.injEq] at this;exact this.symm) (fun κ=>by have:=hl (.n κ);simp only[atL,Sum.inr.injEq] at this;exact this.symm)

theorem Fe (hE:EOk P E) {ops:Array Oper} (hd:∀o∈ops.toList,∀t,o.dst=some t→t<ρ.n) {τ0:St} (hK:∀a w,Rel ρ τ0 a w→Q .normal a w):∀(fuel:Nat) (l:List nB) (listed:Array Bool) (σ τ:St) (a:Act) (w:World),
  ip E (au (ah P) LW (INc P)) ops.toList σ l τ→iX τ0 τ→l.Pairwise (fun e f=>Anc ops.toList f.i e.i∨wG e f)→l.Pairwise (fun e f=>e.i<f.i)→(∀f∈l,∀j,Dir ops.toList f.i j→j<f.i)→
  (∀i,i<ops.size→(listed.getD i true=false↔∃e∈l,e.i=i))→(∀e∈l,e.i<ops.size)→listed.size=ops.size→(∀i j,Dir ops.toList i j→i<ops.size→listed.getD i true=true→listed.getD j false=true)→l.length≤fuel→Rel ρ σ a w→wpAny P .any ops Q fuel listed a w:=by
 intro fuel
 induction fuel with
 |zero=>
  intro l listed σ τ a w hc hl _ _ _ hlist _ _ _ hlen hr
  obtain rfl:l=[]:=qzA qom
  cases hc
  refine⟨?_,hK a w (iX.rel (τ:=τ0) (fun x=>(hl x).symm) hr)⟩
  unfold Region.ready
  rw[List.filter_eq_nil_iff]
  intro i hi
  simp only[List.mem_range] at hi
  have:¬(listed.getD i true=false):=fun h=>by obtain⟨e,he,_⟩:=(hlist i hi).1 h;simp at he
  simp only[Bool.not_eq_false] at this
  simp[this]
 |succ fuel ih=>
  intro l listed σ τ a w hc hl hp hs hlex hlist hin hsz hcl hlen hr
  -- what is ready
  have ready:∀i,i∈Region.ready .any ops listed↔i<ops.size∧listed.getD i true=false∧∀j,Dir ops.toList i j→listed.getD j false=true:=by
   intro i
   unfold Region.ready
   rw[List.mem_filter,List.mem_range]
   refine and_congr_right fun hi=>?_
   have hoi:ops[i]? =some ops[i]:=by simp[hi]
   simp only[hoi,qzL,vo,qzf,Array.all_eq_true_iff_forall_mem,sW,Bool.not_eq_eq_eq_not]
   refine and_congr_right fun _=>⟨fun h j hj=>?_,fun h e he=>?_⟩
   ·obtain⟨o,ho,hj⟩:=hj
    rw[sv,hoi] at ho
    cases ho
    obtain⟨e,he,hb,rfl⟩:=om hj
    rcases h e (Array.mem_toList_iff.1 he) with h'|h'
    ·unfold mu at hb
     unfold Region.binds at h'
     cases hg:e.ground <;> rw[hg] at hb h' <;> simp at hb h'
    ·exact h'
   ·by_cases hb:mu e=true
    ·exact .inr (h e.on ⟨ops[i],by rw[sv,hoi],oC (Array.mem_toList_iff.2 he) hb⟩)
    ·left
     unfold mu at hb
     unfold Region.binds
     cases hg:e.ground <;> rw[hg] at hb <;> simp at hb⊢ <;> rfl
  refine⟨fun hnil=>?_,fun i hi=>?_⟩
  ·cases l with
   |nil=>cases hc;exact hK a w (iX.rel (τ:=τ0) (fun x=>(hl x).symm) hr)
   |cons e l=>
    exfalso
    have:e.i∈Region.ready .any ops listed:=by
     refine(ready e.i).2 ⟨hin e qzx,(hlist e.i (hin e qzx)).2 ⟨e,qzx,rfl⟩,fun j hj=>?_⟩
     have hlt:=hlex e qzx j hj
     have hjs:j<ops.size:=Nat.lt_trans hlt (hin e qzx)
     have h1:¬(listed.getD j true=false):=fun h=>by
      obtain⟨f,hf,hfj⟩:=(hlist j hjs).1 h
      rcases qzo.1 hf with rfl|hf
      ·omega
      ·have:=(List.pairwise_cons.1 hs).1 f hf;omega
     simp only[Bool.not_eq_false] at h1
     rw[qzr] at h1⊢
     have:listed[j]? =some listed[j]:=by simp[hsz,hjs]
     rw[this] at h1⊢
     exact h1
    rw[hnil] at this
    simp at this
  ·obtain⟨hi1,hi2,hi3⟩:=(ready i).1 hi
   obtain⟨e,he,rfl⟩:=(hlist i hi1).1 hi2
   obtain⟨l1,l2,rfl⟩:=List.append_of_mem he
   have hanc:∀j,Anc ops.toList e.i j→listed.getD j false=true:=by
    have gen:∀i j,Anc ops.toList i j→(∀m,Dir ops.toList i m→listed.getD m false=true)→listed.getD j false=true:=by
     intro i j h
     induction h with
     |one h=>exact fun hm=>hm _ h
     | @more i m j h _ ih'=>
      intro hm
      have h1:=hm m h
      have hms:m<ops.size:=by
       rw[qzr] at h1
       rcases qzM m ops.size with h2|h2
       ·exact h2
       ·rw[AP qom] at h1;simp at h1
      have h1':listed.getD m true=true:=by
       rw[qzr] at h1⊢
       have:listed[m]? =some listed[m]:=by simp[hsz,hms]
       rw[this] at h1⊢
       exact h1
      exact ih' (fun m' hm'=>hcl m m' hm' hms h1')
    exact fun j h=>gen _ j h hi3
   have hfr:∀f∈l1,wG f e:=by
    intro f hf
    have hpw:=List.pairwise_append.1 hp
    rcases hpw.2.2 f hf e qzx with h|h
    ·exfalso
     have h1:=hanc _ h
     have hfl:=(hlist f.i (hin f (qzX _ hf))).2 ⟨f,qzX _ hf,rfl⟩
     have hfs:=hin f (qzX _ hf)
     rw[qzr] at h1 hfl
     have:listed[f.i]? =some listed[f.i]:=by simp[hsz,hfs]
     rw[this] at h1 hfl
     simp at h1 hfl
     rw[h1] at hfl;cases hfl
    ·exact h
   obtain⟨τ',hc',hl'⟩:=hc.front l1 hfr
   cases hc' with
   |cons ho hrun hrest=>
    rename_i o
    have ho':ops[e.i]? =some o:=by rw[←sv];exact ho
    have hom:o∈ops.toList:=qzI ho
    refine FC hE hd (hd o hom) (K:=fun ws=>ws=e.ws) ho' ?_ (hrun.holds rfl) hr
    rintro ws a' w' rfl hr'
    have sub:∀f∈l1++l2,f∈l1++e::l2:=fun f hf=>by
     rcases List.mem_append.1 hf with h|h
     ·exact qzX _ h
     ·exact ya _ (qzv _ h)
    have hsub:(l1++l2).Sublist (l1++e::l2):=(List.sublist_cons_self e l2).append_left l1
    refine ih (l1++l2) _ _ _ a' w' hrest (hl.trans hl') (hp.sublist hsub) (hs.sublist hsub) (fun f hf=>hlex f (sub f hf)) ?_ (fun f hf=>hin f (sub f hf)) (by simp[hsz]) ?_ ?_ hr'
    ·intro i hi
     have hne:∀f∈l1++l2,f.i≠e.i:=by
      intro f hf
      have hpw:=List.pairwise_append.1 hs
      rcases List.mem_append.1 hf with h|h
      ·have:=hpw.2.2 f h e qzx;omega
      ·have:=(List.pairwise_cons.1 hpw.2.1).1 f h;omega
     rw[qzr,Array.getElem?_setIfInBounds]
     by_cases hie:e.i=i
     ·rw[if_pos hie]
      simp only[hsz,hie,hi,if_true,vo,Bool.true_eq_false,false_iff]
      rintro⟨f,hf,hfi⟩
      exact hne f hf (hfi.trans hie.symm)
     ·rw[if_neg hie,←qzr,hlist i hi]
      constructor
      ·rintro⟨f,hf,rfl⟩
       rcases List.mem_append.1 hf with h|h
       ·exact⟨f,qzX _ h,rfl⟩
       ·rcases qzo.1 h with rfl|h
        ·exact absurd rfl hie
        ·exact⟨f,ya _ h,rfl⟩
      ·rintro⟨f,hf,rfl⟩
       exact⟨f,sub f hf,rfl⟩
    ·intro i j hij hi hli
     have keep:listed.getD j false=true→(listed.setIfInBounds e.i true).getD j false=true:=fun h=>by
      rw[qzr,Array.getElem?_setIfInBounds]
      by_cases hej:e.i=j
      ·rw[if_pos hej];simp[hsz,hi1]
      ·rw[if_neg hej,←qzr];exact h
     rw[qzr,Array.getElem?_setIfInBounds] at hli
     by_cases hie:e.i=i
     ·exact keep (hi3 j (hie▸hij))
     ·rw[if_neg hie,←qzr] at hli
      exact keep (hcl i j hij hi hli)
    ·simp only[qzg,qzm] at hlen⊢
     omega

/-- a region whose order is drawn -/
theorem qT (hE:EOk P E) (hm:P.follows .mixedOrders=true) {ops:Array Oper} {K:St→Prop} (hK:∀a w σ,K σ→Rel ρ σ a w→Q .normal a w) (hd:∀o∈ops.toList,∀t,o.dst=some t→t<ρ.n) {id:Nat}
  (hh:gF E (au (ah P) LW (INc P)) ops.toList K ops.toList 0 [] σ) (h:Rel ρ σ a w):(Code.region id ops true).wp P Q a w:=by
 refine wp_region_any hm ?_
 obtain⟨l,τ,τ',r1,r2,r3,r4,r5,_,r7⟩:=vM ops.toList 0 [] σ hh (fun e he=>by simp at he) (fun j=>by simp)
 have hmem:∀i,(∃e∈l,e.i=i)↔i<ops.size:=fun i=>by
  have:i∈l.map (·.i)↔i<ops.size:=by rw[r4,List.mem_range'];simp
  rw[←this];simp
 refine Fe hE hd (fun a w hr=>hK a w τ r3 hr) ops.size l _ σ τ' a _ r1 r2 r5 ?_ r7 ?_ ?_ (by simp) ?_ ?_ ?_
 ·have:(l.map (·.i)).Pairwise (·<·):=by rw[r4];exact List.pairwise_lt_range'
  exact List.pairwise_map.1 this
 ·intro i hi
  have hg:(Array.replicate ops.size false).getD i true=false:=by
   rw[qzr];simp[hi]
  rw[hg,hmem i]
  simp[hi]
 ·exact fun e he=>(hmem e.i).1 ⟨e,he,rfl⟩
 ·intro i j _ hi hli
  rw[qzr] at hli
  simp[hi] at hli
 ·have:=congrArg List.length r4
  simp at this
  omega
 ·obtain⟨imm,Λ,F,hX⟩:=h
  exact⟨imm,Λ,F,hX.draw⟩
end
end Go.Vm
/- Code, loops, functions. -/
namespace Go.Vm
section
variable {P:Program} {E:TE} {w:World} {σ:St} {Λ:Lam} {imm:Set} {F:Key→Set} {ρ:Env} {o:Oper} {a:Act}

/-- what is promised of a state, promised of the machine -/
def Gu (ρ:Env) (Q:Ex→St→Prop):Exit→Act→World→Prop
 | .normal,a,w=>∃σ,Q .normal σ∧Rel ρ σ a w
 | .exit id,a,w=>∃σ,Q (.exit id) σ∧Rel ρ σ a w
 | .ret,a,w=>∃σ,Q .ret σ∧Rel ρ σ a w
 |_,_,_=>False

/-- what code does from a state on -/
def yp (P:Program) (c:Code) (Q:Ex→St→Prop) (σ:St):Prop:=∀ρ a w,ff ρ.n c=true→Rel ρ σ a w→c.wp P (Gu ρ Q) a w
/-- loops, in the machine's terms -/
def LWc (P:Program) (c:Code) (Q:Ex→St→Prop) (σ:St):Prop:=(lJ c=false→yp P (.loop c) Q σ)∧∀l r,c= .seq (.label l) r→yp P r Q σ
abbrev fq (P:Program):Ctx:=au (ah P) (LWc P) (INc P)

theorem iU {n:Nat}:∀{l:List Oper},xf n l=true→∀o∈l,∀t,o.dst=some t→t<n
 |[],_,o,ho=>by simp at ho
 |x::l,h,o,ho=>by
  simp only[xf] at h
  split at h
  ·rename_i hx
   rcases qzo.1 ho with rfl|ho
   ·intro t ht;rw[hx] at ht;cases ht
   ·exact iU h o ho
  ·rename_i d hx
   split at h
   ·rename_i hb
    rcases qzo.1 ho with rfl|ho
    ·intro t ht;rw[hx] at ht;cases ht;simpa [Nat.blt_eq] using hb
    ·exact iU h o ho
   ·cases h

theorem gw (hE:EOk P E) (hm:P.follows .mixedOrders=true):∀(c:Code) (Q:Ex→St→Prop) (σ:St),wpC E (fq P) c Q σ→yp P c Q σ
 | .skip,Q,σ,hh,ρ,a,w,_,h=>wp_skip ⟨σ,hh,h⟩
 | .region id ops false,Q,σ,hh,ρ,a,w,hc,h=>by
  simp only[wpC] at hh
  cases hg:ni id E.gap with
  |true=>rw[hg] at hh;exact hh.2 0 _ rfl ρ a w hc h
  |false=>rw[hg] at hh;exact wp_region_list (my hE (K:=Q .normal) (fun a w σ hq hr=>⟨σ,hq,hr⟩) ops.toList σ a w (iU hc) (fun _ h=>h) hh h)
 | .region id ops true,Q,σ,hh,ρ,a,w,hc,h=>by
  simp only[wpC] at hh
  cases hg:ni id E.gap with
  |true=>rw[hg] at hh;exact hh.2 0 _ rfl ρ a w hc h
  |false=>rw[hg] at hh;exact qT hE hm (K:=Q .normal) (fun a w σ hq hr=>⟨σ,hq,hr⟩) (iU hc) hh h
 | .seq x y,Q,σ,hh,ρ,a,w,hc,h=>by
  have hc':ff ρ.n x=true∧ff ρ.n y=true:=by
   simp only[ff] at hc
   split at hc
   ·rename_i h1;exact⟨h1,hc⟩
   ·cases hc
  refine wp_seq (wp_mono (gw hE hm x _ σ hh ρ a w hc'.1 h) ?_)
  intro e a' w' hq
  cases e with
  |normal=>obtain⟨σ',h1,h2⟩:=hq;exact gw hE hm y Q σ' h1 ρ a' w' hc'.2 h2
  |exit id=>exact hq
  |ret=>exact hq
  |outgrown=>exact hq
  |_=>exact hq
 | .cond (.tmp t) x y,Q,σ,hh,ρ,a,w,hc,h=>by
  have hc':t<ρ.n∧ff ρ.n x=true∧ff ρ.n y=true:=by
   simp only[ff] at hc
   split at hc
   ·rename_i h0
    split at hc
    ·rename_i h1;exact⟨by simpa [Nat.blt_eq] using h0,h1,hc⟩
    ·cases hc
   ·cases hc
  simp only[wpC] at hh
  split at hh
  ·rename_i b hb
   obtain⟨imm,Λ,F,hX⟩:=h
   have hn:=hX.nlt
   have ht:=hc'.1
   have hs:=hX.slots t
   rw[hb] at hs
   unfold slotv at hs
   rw[if_pos (sd ht hn)] at hs
   have hv:a.eval (.tmp t)= .bool b:=bM hs
   refine wp_cond_split hv (fun e=>?_) (fun e=>?_)
   ·subst e;exact gw hE hm x Q σ hh ρ a w hc'.2.1 ⟨imm,Λ,F,hX⟩
   ·subst e;exact gw hE hm y Q σ hh ρ a w hc'.2.2 ⟨imm,Λ,F,hX⟩
  ·exact hh.elim
 | .block id c,Q,σ,hh,ρ,a,w,hc,h=>by
  refine wp_block (wp_mono (gw hE hm c _ σ hh ρ a w hc h) ?_)
  intro e a' w' hq
  cases e with
  |exit i=>
   obtain⟨σ',h1,h2⟩:=hq
   simp only at h1
   simp only[Exit.inBlock]
   split
   ·rename_i hi;rw[if_pos hi] at h1;exact⟨σ',h1,h2⟩
   ·rename_i hi;rw[if_neg hi] at h1;exact⟨σ',h1,h2⟩
  |_=>exact hq
 | .exit id,Q,σ,hh,ρ,a,w,_,h=>wp_exit ⟨σ,hh,h⟩
 | .ret,Q,σ,hh,ρ,a,w,_,h=>wp_ret ⟨σ,hh,h⟩
 | .loop c,Q,σ,hh,ρ,a,w,hc,h=>by
  simp only[wpC] at hh
  cases hg:lJ c with
  |true=>rw[hg] at hh;exact hh.elim
  |false=>rw[hg] at hh;exact hh.1 hg ρ a w hc h
 | .cond (.const v) x y,Q,σ,hh,ρ,a,w,hc,h=>by
  have hc':ff ρ.n x=true∧ff ρ.n y=true:=by
   simp only[ff] at hc
   split at hc
   ·rename_i h1;exact⟨h1,hc⟩
   ·cases hc
  cases v with
  |bool b=>
   have hv:a.eval (.const (.bool b))= .bool b:=rfl
   refine wp_cond_split hv (fun e=>?_) (fun e=>?_)
   ·subst e;exact gw hE hm x Q σ hh ρ a w hc'.1 h
   ·subst e;exact gw hE hm y Q σ hh ρ a w hc'.2 h
  |_=>exact hh.elim
 | .cond (.global _) _ _,Q,σ,hh,_,_,_,_,_=>hh.elim
 | .cond (.func _) _ _,Q,σ,hh,_,_,_,_,_=>hh.elim
 | .label _,Q,σ,hh,_,_,_,_,_=>hh.elim
 | .goto _,Q,σ,hh,_,_,_,_,_=>hh.elim
 | .scope _,Q,σ,hh,_,_,_,_,_=>hh.elim
 | .rangeFunc _ _ _ _,Q,σ,hh,_,_,_,_,_=>hh.elim
 | .refuse _,Q,σ,hh,_,_,_,_,_=>hh.elim

/-- a loop: a family of what holds when a round begins, and a number that falls -/
theorem DI {c:Code} {Q:Exit→Act→World→Prop} {ι:Type} (I:ι→Act→World→Prop) (μ:ι→Nat) (i0:ι) (h0:I i0 a w)
  (round:∀i a w,I i a w→c.wp P (Exit.then (fun a' w'=>∃j,I j a' w'∧μ j<μ i) Q) a w):(Code.loop c).wp P Q a w:=by
 intro b k cs
 have key:∀n i a w,μ i=n→I i a w→∃e a' w',Q e a' w'∧Arrives P (lone (b.at a (.code c:: .inLoop c::k)) cs w) b k cs e a' w':=by
  intro n
  induction n using Nat.strongRecOn with
  |_ n ih=>
   intro i a w hn hI
   obtain⟨e,a₁,w₁,hq,harr⟩:=round i a w hI b (.inLoop c::k) cs
   cases e with
   |normal=>
    obtain⟨j,hI₁,hlt⟩:=hq
    obtain⟨e₂,a₂,w₂,hq₂,harr₂⟩:=ih (μ j) (hn▸hlt) j a₁ w₁ rfl hI₁
    exact⟨e₂,a₂,w₂,hq₂,.of_steps (Steps.trans harr (.one step_inLoop)) harr₂⟩
   |exit id=>exact⟨_,a₁,w₁,hq,.pass (x:=.inLoop c) rfl (fun _ _=>.inl (by simp)) harr⟩
   |goto l=>exact⟨_,a₁,w₁,hq,.pass (x:=.inLoop c) rfl (fun _ _=>.inl (by simp)) harr⟩
   |ret=>exact⟨_,a₁,w₁,hq,.pass (x:=.inLoop c) rfl (fun _ _=>.inl (by simp)) harr⟩
   |panic ch=>exact⟨_,a₁,w₁,hq,.pass (x:=.inLoop c) rfl (fun _ _=>.inl (by simp)) harr⟩
   |outgrown=>exact⟨_,a₁,w₁,hq,.pass (x:=.inLoop c) rfl (fun _ _=>.inl (by simp)) harr⟩
 obtain⟨e,a',w',hq,harr⟩:=key _ i0 a w rfl h0
 exact⟨e,a',w',hq,.of_steps (.one step_loop) harr⟩

/-- τ says less than σ -/
def Cov (σ τ:St):Prop:=∀ρ a w,Rel ρ σ a w→Rel ρ τ a w

theorem FJ (hE:EOk P E) (hm:P.follows .mixedOrders=true) {c:Code} {Q:Ex→St→Prop} {ι:Type} (I:ι→St) (μ:ι→Nat) (i0:ι) (h0:Cov σ (I i0))
  (round:∀i,wpC E (fq P) c (fun e σ'=>match e with| .normal=>∃j,Cov σ' (I j)∧μ j<μ i|e=>Q e σ') (I i)):yp P (.loop c) Q σ:=by
 intro ρ a w hc h
 refine DI (fun i a w=>Rel ρ (I i) a w) μ i0 (h0 ρ a w h) (fun i a w hI=>?_)
 refine wp_mono (gw hE hm c _ (I i) (round i) ρ a w hc hI) ?_
 intro e a' w' hq
 cases e with
 |normal=>
  obtain⟨σ',⟨j,h1,h2⟩,h3⟩:=hq
  exact⟨j,h1 ρ a' w' h3,h2⟩
 |exit id=>exact hq
 |ret=>exact hq
 |outgrown=>exact hq
 |_=>exact hq
theorem GQ {c:Code} {Q:Ex→St→Prop} (hmk:lJ c=false) (h:yp P (.loop c) Q σ):LWc P c Q σ:=⟨fun _=>h,fun l r e=>by rw[e] at hmk;cases hmk⟩
/-- a drawn region, from a state that says less -/
theorem I8 {E:TE} {C:Ctx} (hC:C=fq P) (hE:EOk P E) (hm:P.follows .mixedOrders=true) {id:Nat} {ops:Array Oper} {Q:Ex→St→Prop} (τ:St) (hcov:Cov σ τ) (h:gF E C ops.toList (Q .normal) ops.toList 0 [] τ):C.LW (.seq (.label 0) (.region id ops true)) Q σ:=by
 subst hC
 refine⟨fun h=>(by cases h),fun l r e=>?_⟩
 cases e
 intro ρ a w hc hr
 exact qT hE hm (K:=Q .normal) (fun a w σ hq hr=>⟨σ,hq,hr⟩) (iU hc) h (hcov ρ a w hr)
/-- a region, from a state that says less -/
theorem tR {E:TE} {C:Ctx} (hC:C=fq P) (hE:EOk P E) (_hm:P.follows .mixedOrders=true) {id:Nat} {ops:Array Oper} {Q:Ex→St→Prop} (τ:St) (hcov:Cov σ τ) (h:wpOps E C ops.toList (Q .normal) ops.toList τ):C.LW (.seq (.label 0) (.region id ops false)) Q σ:=by
 subst hC
 refine⟨fun h=>(by cases h),fun l r e=>?_⟩
 cases e
 intro ρ a w hc hr
 exact wp_region_list (my hE (K:=Q .normal) (fun a w σ hq hr=>⟨σ,hq,hr⟩) ops.toList τ a w (iU hc) (fun _ h=>h) h (hcov ρ a w hr))
end
end Go.Vm
/- Functions: a body that does what is said makes the contract. -/
namespace Go.Vm
section
variable {P:Program} {E:TE} {w:World} {σ:St} {Λ:Lam} {imm:Set} {F:Key→Set} {ρ:Env} {a:Act}

/-- what is known of a slot, written down -/
theorem aD.know (h:aD ρ σ a w imm Λ F) {t:Nat} {x:A} (hx:CR w imm (some Λ) x (Vm.slotv ρ a t) Set.no):aD ρ (σ.upd1 (.s t x)) a w imm Λ F:=by
 refine{ h with slots:=fun u=>?_ }
 show CR w imm (some Λ) (lkS ((t,x)::σ.slots) u) _ _
 rw[dD]
 by_cases e:u=t
 ·subst e;rw[if_pos rfl];exact hx
 ·rw[if_neg e];exact h.slots u

theorem KB.head {p:Nat→Nat→Nat→Prop} {c:A} {ds:List A} {u:Value} {us:List Value} (h:KB p (c::ds) (u::us)):KB p [c] [u]:=by
 cases c <;> simp only[KB] at h⊢ <;> exact⟨h.1,trivial⟩
theorem uk {k:St→Prop}:∀(ds:List A) (i:Nat) (us:List Value) (σ:St) (Λ:Lam) (F:Key→Set) (T:Set),aD ρ σ a w imm Λ F→KB (ρ.kept w) ds us→af w imm none ds us T→cY F imm (xq ρ w) T→
  (∀j,j<us.length→us[j]? =some (slotv ρ a (i+j))∧us[j]? =some (slotv ρ a (1000000+(i+j))))→pe (fq P) i ds σ k→∃σ',k σ'∧Rel ρ σ' a w
 |[],i,us,σ,Λ,F,T,h,hKB,hv,hH,hs,hh=>⟨σ,hh,imm,Λ,F,h⟩
 |d::ds,i,[],σ,Λ,F,T,h,hKB,hv,hH,hs,hh=>by simp only[af] at hv
 |d::ds,i,u::us,σ,Λ,F,T,h,hKB,hv,hH,hs,hh=>by
  simp only[af] at hv
  obtain⟨T1,T2,hd,hv,h1,h2,h12⟩:=hv
  simp only[pe] at hh
  obtain⟨ws,as,Λ',F',r1,r2,r3,r4,r5⟩:=ne i 40 0 [d] [u] _ σ Λ F T1 _ h hKB.head (af.of_one hd) (hH.le h1) hh
  obtain⟨c,rfl,hc⟩:=af.single r4
  have h0:=hs 0 (by simp)
  simp only[qzs,qzh,Nat.add_zero] at h0
  have k1:=r2.know (t:=i) (x:=c) (by rw[←h0.1];exact hc)
  have k2:=k1.know (t:=1000000+i) (x:=c) (by rw[←h0.2];exact hc)
  have hH2:cY F' imm (xq ρ w) T2:=⟨fun κ b hb hb2=>by
    rcases r5 κ b hb2 with h'|h'
    ·exact hH.dis κ b (h2 b hb) h'
    ·exact h12 b h' hb,(hH.le h2).imm,(hH.le h2).pool⟩
  have r1':pe (fq P) (i+1) ds (σ.upd (ws++[.s i c,.s (1000000+i) c])) k:=r1
  rw[bo] at r1'
  refine uk ds (i+1) us _ Λ' F' T2 k2 hKB.tail hv hH2 (fun j hj=>?_) r1'
  have:=hs (j+1) (by simpa using hj)
  simpa [tq,Nat.add_comm 1 j] using this

theorem rD (h:aD ρ σ a w imm Λ F) {K:List W→Prop}:∀{ts:List Nat} {f:List A→Pg},(qa ts f).holds σ K→∃vs,(f vs).holds σ K∧af w imm (some Λ) vs (ts.map (slotv ρ a)) Set.no
 |[],f,hh=>⟨[],hh,by simp[af]⟩
 |t::ts,f,hh=>by
  obtain⟨vs,h1,h2⟩:=rD h (ts:=ts) hh
  exact⟨_::vs,h1,by simp only[qzG,af];exact⟨Set.no,Set.no,h.slots t,h2,Set.le_refl _,Set.le_refl _,Set.no_dis _⟩⟩

def ik (vs:Array Value):Value:=if h:vs.size=1 then vs[0] else .tuple vs
theorem Dc {imm:Set} {x:Option Lam} {rds:List A} {vs:List Value} {S:Set} (h:af w imm x rds vs S):CR w imm x (tupOf rds) (ik vs.toArray) S:=by
 match rds,vs,h with
 |[],[],h=>simp only[tupOf,ik,CR];exact⟨[],by simp,by simp only[af]⟩
 |[c],[v],h=>
  simp only[af] at h
  obtain⟨S1,S2,h1,_,h3,_⟩:=h
  exact h1.mono h3
 |c::c'::cs,v::v'::vs,h=>simp only[tupOf,ik,CR];exact⟨v::v'::vs,by simp,h⟩
 |[],_::_,h=>simp only[af] at h
 |_::_,[],h=>simp only[af] at h
 |[_],_::_::_,h=>simp only[af] at h;obtain⟨_,_,_,h,_⟩:=h;exact h.elim
 |_::_::_,[_],h=>simp only[af] at h;obtain⟨_,_,_,h,_⟩:=h;exact h.elim

theorem KB.tupOf {p:Nat→Nat→Nat→Prop} {rds:List A} {vs:List Value} (h:KB p rds vs) (hl:vs.length=rds.length):KB p [tupOf rds] [ik vs.toArray]:=by
 match rds,vs,h,hl with
 |[],[],h,_=>simp only[Vm.tupOf,ik,KB];exact⟨fun vs _=>by cases vs <;> simp only[KB],trivial⟩
 |[c],[v],h,_=>exact h
 |c::c'::cs,v::v'::vs,h,_=>
  simp only[Vm.tupOf,ik,KB]
  refine⟨fun vs' e=>?_,trivial⟩
  have e':v::v'::vs=vs':=by simpa using e
  subst e'
  exact h
def iE (tmps:Array Value):ResultVar→Go.Sem Value
 | .tmp t=>pure (tmps.getD t undef)
 | .cell a t=>do loadVar t (←asAddr (tmps.getD a undef))
theorem El (fn:Func) (tmps:Array Value):results fn tmps=(fn.results.mapM (iE tmps) >>= fun vs=>pure (ik vs)):=by
 unfold results
 have he:(fun(x:ResultVar)=>match x with
   | .tmp t=>(pure (tmps.getD t undef):Go.Sem Value)
   | .cell a t=>(asAddr (tmps.getD a undef) >>= fun ad=>loadVar t ad))=iE tmps:=by funext x;cases x <;> rfl
 exact congrArg (fun g=>(Array.mapM g fn.results >>= fun vs=>(pure (ik vs):Go.Sem Value))) he
end
end Go.Vm
