/- Insertion of rows of three cells, as a contract over data. -/
import Derived.Test.YtlbnmldopjadoaaGreatX0
import Derived.Test.YtlbnmldopjadoaaGreatI0
namespace Go.Proofs.YtlbnmldopjadoaaGreat
open Go Go.Vm Go.Sort
theorem iF (b:Nat):∀(vs:List Value) (o:Nat) (w:World),w.setCells b o vs=setRow w b o vs
 |[],_,_=>rfl
 |v::vs,o,w=>by rw[World.setCells,setRow];exact iF b vs (o+1) _
theorem DT {w:World} {imm S:Set} {a a' a'':A} {vs:List Value} (h:af w imm none [a,a',a''] vs S):∃v v' v'' S1 S2,vs=[v,v',v'']∧CR w imm none a v S1∧CR w imm none a' v' S∧CR w imm none a'' v'' S2∧Set.le S1 S∧Set.le S2 S∧Set.dis S1 S2:=by
 match vs,h with
 |[],h=>simp only[af] at h
 |[_],h=>simp only[af] at h;obtain⟨_,_,_,h,_⟩:=h;exact h.elim
 |[_,_],h=>simp only[af] at h;obtain⟨_,_,_,⟨_,_,_,h,_⟩,_⟩:=h;exact h.elim
 |[v,v',v''],h=>
  simp only[af] at h
  obtain⟨S1,S2,h1,⟨T1,T2,g1,⟨U1,U2,k1,_,k3,_⟩,g3,g4,g5⟩,h3,h4,h5⟩:=h
  exact⟨v,v',v'',S1,T2,rfl,h1,(g1.mono g3).mono h4,k1.mono k3,h3,Set.le_trans g4 h4,fun b x y=>h5 b x (g4 b y)⟩
 |_::_::_::_::_,h=>simp only[af] at h;obtain⟨_,_,_,⟨_,_,_,⟨_,_,_,h,_⟩,_⟩,_⟩:=h;exact h.elim
/-- rows of plain cells: their values -/
theorem yJ {w:World} {imm S:Set} {rows:Vm.Rows} {b o k:Nat} (h:aq w imm none rows b o k S) (hp:rows.flatten.all plain=true) (ho:rows.flatten.all fV=true) :
  ∃vs:List Value,vs.length=rows.length * k∧(∀j v,vs[j]? =some v→w.cell? ⟨b,o+j,none⟩=some v)∧af w imm none rows.flatten vs Set.no∧(∀v∈vs,v.oneCell'=true):=by
 obtain⟨h1,h2⟩:=h.cells
 obtain⟨vs,g1,g2,g3⟩:=ai.vals _ _ _ h1
 have hl:∀(rows:Vm.Rows),(∀r∈rows,r.length=k)→rows.flatten.length=rows.length * k:=fun rows=>by
  induction rows with
  |nil=>simp
  |cons r rows ih=>intro h;rw[List.flatten_cons,List.length_append,h r (by simp),ih (fun q hq=>h q (by simp[hq])),List.length_cons,Nat.succ_mul];omega
 refine⟨vs,by rw[g1,hl rows h2],fun j v hj=>?_,af.plain hp g3,fun v hv=>?_⟩
 ·have:j<vs.length:=by
   rcases Nat.lt_or_ge j vs.length with h|h
   ·exact h
   ·rw[List.getElem?_eq_none h] at hj;cases hj
  rw[g2 j this];exact hj
 ·have:=af.one ho g3 v hv
  cases v <;> first|rfl|exact absurd rfl (this.1 _)|exact absurd rfl (this.2 _)
theorem Bt {w:World} {b size p:Nat} (h:Own w b size) (hp:p<size):(w.cell? ⟨b,p,none⟩).isSome=true:=by
 obtain⟨c,e,lo,hi,h1,h2,_⟩:=h
 subst h2
 simp[World.cell?,h1,hp]
theorem yK {w:World} {b size:Nat} (h:Own w b size):∃t,w.shape? b=some (t,size):=by
 obtain⟨c,e,lo,hi,h1,h2,_⟩:=h
 exact⟨e,by simp[World.shape?,h1,h2]⟩
theorem Fj {V1 V2:List Value} {p n j:Nat} {v:Value} (h2:V2.length=n) (hp:p≤V1.length) (h:(V1.take p++V2++V1.drop p)[j]? =some v) :
  (j<p∧V1[j]? =some v)∨(p≤j∧j<p+n∧V2[j-p]? =some v)∨(p+n≤j∧j<V1.length+n∧(V1.drop p)[j-(p+n)]? =some v):=by
 have l1:(V1.take p).length=p:=by rw[List.length_take];omega
 rw[List.getElem?_append] at h
 split at h
 ·rename_i h3
  rw[List.length_append,l1,h2] at h3
  rw[List.getElem?_append] at h
  split at h
  ·rename_i h4
   rw[l1] at h4
   rw[List.getElem?_take,if_pos h4] at h
   exact .inl ⟨h4,h⟩
  ·rename_i h4
   rw[l1] at h4 h
   exact .inr (.inl ⟨by omega,h3,h⟩)
 ·rename_i h3
  rw[List.length_append,l1,h2] at h3 h
  have:j-(p+n)<(V1.drop p).length:=by
   rcases Nat.lt_or_ge (j-(p+n)) (V1.drop p).length with h5|h5
   ·exact h5
   ·rw[List.getElem?_eq_none h5] at h;cases h
  rw[List.length_drop] at this
  exact .inr (.inr ⟨by omega,by omega,h⟩)
theorem pK {w w':World} {R:Array Value} {e:TypeId} (hw:w'=w.drew.alloc (.cells R e)) :
  (∀y,y<w.heap.size→w'.heap[y]? =w.heap[y]?)∧w'.heap.size=w.heap.size+1∧w'.heap[w.heap.size]? =some (.cells R e (0,0))∧w'.os=w.os∧w'.output=w.output∧w'.tape=w.tape∧∀j,w'.cell? ⟨w.heap.size,j,none⟩=R[j]? :=by
 rw[alloc_eq_grow] at hw
 have h:w'.heap[w.heap.size]? =some (.cells R e (0,0)):=by
  rw[hw]
  show(w.heap++ #[_])[w.heap.size]? =_
  rw[Array.getElem?_append_right (Nat.le_refl _),Nat.sub_self]
  rfl
 exact⟨fun y hy=>by rw[hw];exact heap_grow_old w.drew _ hy,by rw[hw,size_grow];rfl,h,by rw[hw];rfl,by rw[hw];rfl,by rw[hw];rfl,fun j=>by simp[World.cell?,h]⟩
theorem EF {V1 V2:List Value} {R:Array Value} {p j:Nat} {v:Value} (hp:p=V1.length) (h:(V1.take p++V2++V1.drop p)[j]? =some v):((V1++V2).toArray++R)[j]? =some v:=by
 subst hp
 rw[List.take_length,List.drop_length,List.append_nil] at h
 have hl:j<(V1++V2).length:=by
  rcases Nat.lt_or_ge j (V1++V2).length with h1|h1
  ·exact h1
  ·rw[List.getElem?_eq_none h1] at h;cases h
 rw[Array.getElem?_append_left (by simpa using hl)]
 simpa using h
theorem HE {rows rows2:Vm.Rows} {i:Nat} (hk:∀r∈rows,r.length=3) (hp:rows.flatten.all plain=true) (ho:rows.flatten.all fV=true)
  (hk2:∀r∈rows2,r.length=3) (hp2:rows2.flatten.all plain=true) (ho2:rows2.flatten.all fV=true) (h2:rows2.length=1) (hi:i≤rows.length) (hbig:(rows.length+1) * 40≤140737488355328) :
  ah Tryz.prog 183 [.inl 3 rows,.lit (.int .i64 i),.inl 3 rows2] [.hole,.hole,.hole] (.inl 3 (rows.take i++rows2++rows.drop i)):=by
 refine⟨⟨_,Tryz.func183,by kernel_rfl,by kernel_rfl⟩,fun w imm S vs hv hd him hS=>?_⟩
 obtain⟨u,u',u'',S1,S2,rfl,hu,hu',hu'',hS1,hS2,hdis⟩:=DT hv
 simp only[CR] at hu hu' hu''
 subst hu'
 obtain⟨a,c,rfl,hu⟩:=hu
 obtain⟨a2,c2,rfl,hu2⟩:=hu''
 rcases hu2 with⟨_,_,e⟩|⟨vb,voff,vsize,T2,rfl,q1,q2,q3,q4,q5,q6,q7,q8⟩
 ·rw[e] at h2;cases h2
 have hvb:vb<w.heap.size:=hS vb (hS2 vb q1)
 obtain⟨V2,m1,m2,m3,m4⟩:=yJ q8 hp2 ho2
 rw[h2] at m1 q7⊢
 -- the values of the new row
 have fl:∀V1:List Value,V1.length=rows.length * 3→af w imm none rows.flatten V1 Set.no→af w imm none (rows.take i++rows2++rows.drop i).flatten (V1.take (i * 3)++V2++V1.drop (i * 3)) Set.no:=fun V1 hl h=>by
  have e:rows.flatten=(rows.take i).flatten++(rows.drop i).flatten:=by rw[←List.flatten_append,List.take_append_drop]
  have hl2:∀(rows:Vm.Rows),(∀r∈rows,r.length=3)→rows.flatten.length=rows.length * 3:=fun rows=>by
   induction rows with
   |nil=>simp
   |cons r rows ih=>intro h;rw[List.flatten_cons,List.length_append,h r (by simp),ih (fun q hq=>h q (by simp[hq])),List.length_cons];omega
  have hl3:(rows.take i).flatten.length=i * 3:=by rw[hl2 _ (fun r hr=>hk r (List.mem_of_mem_take hr)),List.length_take,Nat.min_eq_left hi]
  rw[e,←List.take_append_drop (i * 3) V1] at h
  obtain⟨T1,T2,g1,g2,_⟩:=af.split (by rw[hl3,List.length_take,hl];omega) h
  have pa:(rows.take i).flatten.all plain=true:=by rw[e,List.all_append,Bool.and_eq_true] at hp;exact hp.1
  have pb:(rows.drop i).flatten.all plain=true:=by rw[e,List.all_append,Bool.and_eq_true] at hp;exact hp.2
  rw[List.flatten_append,List.flatten_append]
  exact af.append (af.append (af.plain pa g1) m3) (af.plain pb g2)
 have wide:∀r∈rows.take i++rows2++rows.drop i,r.length=3:=fun r hr=>by
  rcases List.mem_append.1 hr with hr|hr
  ·rcases List.mem_append.1 hr with hr|hr
   ·exact hk r (List.mem_of_mem_take hr)
   ·exact hk2 r hr
  ·exact hk r (List.mem_of_mem_drop hr)
 have len:(rows.take i++rows2++rows.drop i).length=rows.length+1:=by simp only[List.length_append,List.length_take,List.length_drop,h2];omega
 -- what is left to say of the world iM
 have fin:∀(V1:List Value) (w':World) (b' o' size cap:Nat) (T:Set),V1.length=rows.length * 3→af w imm none rows.flatten V1 Set.no→
   (∀y,y<w.heap.size→y≠b'→w'.heap[y]? =w.heap[y]?)→w.heap.size≤w'.heap.size→b'<w'.heap.size→(S b'∨w.heap.size≤b')→w'.os=w.os→w'.output=w.output→w'.tape=w.tape→aO w w'→Own w' b' size→o'+cap * 3≤size→o'≤size→rows.length+1≤cap→
   (∀j v,(V1.take (i * 3)++V2++V1.drop (i * 3))[j]? =some v→w'.cell? ⟨b',o'+j,none⟩=some v)→
   ∃imm' T1 T2,Set.le imm imm'∧af w' imm' none [.hole,.hole,.hole] [.slice a rows.length c,.int .i64 i,.slice (some ⟨vb,voff,none⟩) rows2.length c2] T1∧CR w' imm' none (.inl 3 (rows.take i++rows2++rows.drop i)) (.slice (some ⟨b',o',none⟩) (rows.length+1) cap) T2∧Set.dis T1 T2∧Set.dis T1 imm'∧Set.dis T2 imm'∧
     (∀b,T1 b∨T2 b→b<w'.heap.size∧(S b∨w.heap.size≤b))∧(∀b,imm' b→b<w'.heap.size∧(imm b∨S b∨w.heap.size≤b))∧
     (∀b,b<w.heap.size→¬S b→w'.heap[b]? =w.heap[b]?)∧w.heap.size≤w'.heap.size∧w'.os=w.os∧w'.output=w.output∧w'.tape=w.tape∧aO w w'∧KB (NS w w') [.hole,.hole,.hole] [.slice a rows.length c,.int .i64 i,.slice (some ⟨vb,voff,none⟩) 1 c2]∧
     KB (tF w w' [.inl 3 rows,.lit (.int .i64 i),.inl 3 rows2] [.slice a rows.length c,.int .i64 i,.slice (some ⟨vb,voff,none⟩) 1 c2]) [.inl 3 (rows.take i++rows2++rows.drop i)] [.slice (some ⟨b',o',none⟩) (rows.length+1) cap]:=by
  intro V1 w' b' o' size cap T l1 hV far grow hb' hnew e1 e2 e3 hsz own f1 f2 f3 cells
  have nimm:¬imm b':=fun h=>by
   rcases hnew with h'|h'
   ·exact hd b' h' h
   ·exact absurd (him b' h) (by omega)
  have nS:∀y,y<w.heap.size→¬S y→y≠b':=fun y hy hn e=>by
   subst e
   rcases hnew with h'|h'
   ·exact hn h'
   ·omega
  refine⟨imm,Set.no,fun y=>y=b',Set.le_refl _,?_,?_,Set.no_dis _,Set.no_dis _,fun y hy hz=>by subst hy;exact nimm hz,fun y hy=>?_,fun y hy=>⟨Nat.lt_of_lt_of_le (him y hy) grow,.inl hy⟩,fun y hy hn=>far y hy (nS y hy hn),grow,e1,e2,e3,hsz,by simp only[KB],by simp only[KB]⟩
  ·simp only[af,CR]
   exact⟨Set.no,Set.no,trivial,⟨Set.no,Set.no,trivial,⟨Set.no,Set.no,trivial,trivial,Set.no_le _,Set.no_le _,Set.no_dis _⟩,Set.no_le _,Set.no_le _,Set.no_dis _⟩,Set.no_le _,Set.no_le _,Set.no_dis _⟩
  ·simp only[CR,len]
   refine⟨_,cap,rfl,.inr ⟨b',o',size,Set.no,rfl,rfl,fun h=>h,Set.no_le _,own,f1,f2,f3,?_⟩⟩
   have st:=af.stable (w:=w) (w':=w') (imm:=imm) (imm':=imm) (Set.le_refl _) (fun y hy=>far y (him y hy) (fun e=>nimm (e▸hy))) none none _ _ Set.no Set.no (bF?.refl _) (Set.le_refl _) (fun _ h=>h.elim) (fl V1 l1 hV)
   refine aq.of_cells wide (ai.of_vals st fun j hj=>?_)
   rw[List.getElem?_eq_getElem hj]
   exact cells j _ (List.getElem?_eq_getElem hj)
  ·rcases hy with hy|hy
   ·exact hy.elim
   ·subst hy;exact⟨hb',hnew⟩
 have new:∀(V1:List Value) (w':World) (g:Nat) (R:Array Value),V1.length=rows.length * 3→af w imm none rows.flatten V1 Set.no→rows.length+1≤g→R.size=g * 3→(∀y,y<w.heap.size→w'.heap[y]? =w.heap[y]?)→w'.heap.size=w.heap.size+1→(∃e,w'.heap[w.heap.size]? =some (.cells R e (0,0)))→w'.os=w.os→w'.output=w.output→w'.tape=w.tape→
   (∀j v,(V1.take (i * 3)++V2++V1.drop (i * 3))[j]? =some v→w'.cell? ⟨w.heap.size,0+j,none⟩=some v)→_:=fun V1 w' g R l1 hV hg hR far hs he e1 e2 e3 cells=>
  fin V1 w' w.heap.size 0 (g * 3) g Set.no l1 hV (fun y hy _=>far y hy) (by omega) (by omega) (.inr (Nat.le_refl _)) e1 e2 e3 (aO.same far) (by obtain⟨e,he⟩:=he;exact⟨R,e,0,0,he,hR,Nat.le_refl _⟩) (by omega) (by omega) hg cells
 rcases hu with⟨rfl,rfl,e⟩|⟨b,o,size,S',rfl,p1,p2,p3,p4,p5,p6,p7,p8⟩
 ·subst e
  obtain rfl:i=0:=by simpa using hi
  refine Calls.mono' (pd none 0 0 vb voff 1 c2 [] V2 w (by omega) (by omega) (by omega) (by omega) rfl (by omega) (fun _=>rfl) (fun a h=>by cases h) m2 m4) ?_
  rintro e w' ⟨G,R,k1,k2,rfl,hw⟩
  obtain⟨a1,a2,a3,a4,a5,a6,a7⟩:=pK hw
  exact new [] w' G _ rfl (by simp only[List.flatten_nil,af]) k1 (by simp only[Array.size_append,List.size_toArray,List.nil_append];simp at k2;omega) a1 a2 ⟨_,a3⟩ a4 a5 a6 fun j v hj=>by rw[Nat.zero_add,a7];exact EF rfl hj
 have hb:b<w.heap.size:=hS b (hS1 b p1)
 have hne:vb≠b:=fun e=>hdis b p1 (e▸q1)
 obtain⟨V1,n1,n2,n3,n4⟩:=yJ p8 hp ho
 obtain⟨tA,sA⟩:=yK q4
 obtain⟨tB,sB⟩:=yK p4
 -- the cells of a row that is laid in place
 have inplace:∀(W0 w':World),W0.heap=w.heap→W0.os=w.os→W0.output=w.output→W0.tape=w.tape→w'=setRow (setRow W0 b (o+(i+1) * 3) (V1.drop (i * 3))) b (o+i * 3) V2→rows.length+1≤c→_:=fun W0 w' t1 t2 t3 t4 hw hroom=>by
  have own1:Own W0 b size:=Own.same p4 (by rw[t1])
  exact fin V1 w' b o size c S' n1 n3 (fun y hy hy'=>by rw[hw,Vm.setRow_heap _ _ _ _ _ hy',Vm.setRow_heap _ _ _ _ _ hy',t1]) (by rw[hw,Vm.setRow_size,Vm.setRow_size,t1];exact Nat.le_refl _) (by rw[hw,Vm.setRow_size,Vm.setRow_size,t1];exact hb) (.inl (hS1 b p1))
   (by rw[hw,(Vm.setRow_os _ _ _ _).1,(Vm.setRow_os _ _ _ _).1,t2]) (by rw[hw,(Vm.setRow_os _ _ _ _).2.1,(Vm.setRow_os _ _ _ _).2.1,t3]) (by rw[hw,(Vm.setRow_os _ _ _ _).2.2,(Vm.setRow_os _ _ _ _).2.2,t4])
   (by rw[hw];exact aO.trans (aO.same (fun y _=>by rw[t1])) (aO.trans (aO.setRow b _ W0 _) (aO.setRow b _ _ _))) (by rw[hw];exact Own.setRow _ (Own.setRow _ own1 _) _) p5 p6 hroom fun j v hj=>by
    have ld:(V1.drop (i * 3)).length=(rows.length-i) * 3:=by rw[List.length_drop,n1];omega
    rw[hw,fv V2 (Own.setRow _ own1 _) _ _ (by omega),fv _ own1 _ _ (by omega)]
    rcases Fj (n:=3) (by omega) (by omega) hj with⟨g1,g2⟩|⟨g1,g2,g3⟩|⟨g1,g2,g3⟩
    ·rw[if_neg (by omega),if_neg (by omega),cell?_same (w:=w) (by rw[t1])]
     exact n2 j v g2
    ·rw[if_pos (by omega),show o+j-(o+i * 3)=j-i * 3 by omega];exact g3
    ·rw[if_neg (by omega),if_pos (by omega),show o+j-(o+(i+1) * 3)=j-(i * 3+3) by omega];exact g3
 by_cases hroom:rows.length+1≤c
 ·by_cases he:i=rows.length
  ·subst he
   refine Calls.mono' (vZ b o rows.length c vb voff 1 c2 V2 w (by omega) hroom (by omega) (by omega) (fun j hj=>Bt p4 (by omega)) (fun j hj=>p4.frozen) m2 m4) ?_
   rintro e w' ⟨rfl,hw⟩
   exact inplace w w' rfl rfl rfl rfl (by rw[hw,iF,List.drop_eq_nil_of_le (by omega)];rfl) hroom
  ·refine Calls.mono' (BT b o rows.length c i vb voff 1 c2 V1 V2 w (by omega) (by omega) hroom (by omega) hne n1 (by omega) n2 (fun j hj=>Bt p4 (by omega)) (fun j hj=>p4.frozen) m2 n4 m4 tA tB vsize size sA sB (by omega) q4.frozen q4.frozen) ?_
   rintro e w' ⟨rfl,hw⟩
   exact inplace w.drew w' rfl rfl rfl rfl (by rw[hw,iF,iF]) hroom
 ·by_cases he:i=rows.length
  ·subst he
   refine Calls.mono' (pd (some ⟨b,o,none⟩) rows.length c vb voff 1 c2 V1 V2 w (by omega) p7 (by omega) (by omega) n1 (by omega) (fun h=>by cases h) (fun a h j v hj=>by cases h;rw[Addr.add_lit];exact n2 j v hj) m2 m4) ?_
   rintro e w' ⟨G,R,k1,k2,rfl,hw⟩
   obtain⟨a1,a2,a3,a4,a5,a6,a7⟩:=pK hw
   exact new V1 w' G _ n1 n3 k1 (by simp only[Array.size_append,List.size_toArray,List.length_append];omega) a1 a2 ⟨_,a3⟩ a4 a5 a6 fun j v hj=>by rw[Nat.zero_add,a7];exact EF (by omega) hj
  ·refine Calls.mono' (CD b o rows.length c i vb voff 1 c2 V1 V2 w (by omega) (by omega) p7 (by omega) (by omega) n1 (by omega) n2 m2 n4 m4) ?_
   rintro e w' ⟨G,R,k1,k2,k3,rfl,hw⟩
   rw[iF,iF] at hw
   generalize hA:w.alloc (.cells R 67)=A at hw
   obtain⟨a1,a2,a3,a4,a5,a6,a7⟩:=pK (w':=A.drew) (R:=R) (e:=67) (by rw[←hA];rfl)
   have own0:Own A.drew w.heap.size (G * 3):=⟨R,67,0,0,a3,k2,Nat.le_refl _⟩
   have own1:Own (setRow A.drew w.heap.size (i * 3) V2).drew w.heap.size (G * 3):=Own.same (Own.setRow V2 own0 _) rfl
   have ld:(V1.drop (i * 3)).length=(rows.length-i) * 3:=by rw[List.length_drop,n1];omega
   refine fin V1 w' w.heap.size 0 (G * 3) G Set.no n1 n3 (fun y hy hy'=>?_) ?_ ?_ (.inr (Nat.le_refl _)) ?_ ?_ ?_ (aO.same fun y hy=>?_) ?_ (by omega) (by omega) k1 fun j v hj=>?_
   ·rw[hw,Vm.setRow_heap _ _ _ _ _ hy',show(setRow A.drew w.heap.size (i * 3) V2).drew.heap=(setRow A.drew w.heap.size (i * 3) V2).heap from rfl,Vm.setRow_heap _ _ _ _ _ hy'];exact a1 y hy
   ·rw[hw,Vm.setRow_size,show(setRow A.drew w.heap.size (i * 3) V2).drew.heap=(setRow A.drew w.heap.size (i * 3) V2).heap from rfl,Vm.setRow_size,a2];omega
   ·rw[hw,Vm.setRow_size,show(setRow A.drew w.heap.size (i * 3) V2).drew.heap=(setRow A.drew w.heap.size (i * 3) V2).heap from rfl,Vm.setRow_size,a2];omega
   ·rw[hw,(Vm.setRow_os _ _ _ _).1];exact(Vm.setRow_os _ _ _ _).1.trans a4
   ·rw[hw,(Vm.setRow_os _ _ _ _).2.1];exact(Vm.setRow_os _ _ _ _).2.1.trans a5
   ·rw[hw,(Vm.setRow_os _ _ _ _).2.2];exact(Vm.setRow_os _ _ _ _).2.2.trans a6
   ·have hy':y≠w.heap.size:=by omega
    rw[hw,Vm.setRow_heap _ _ _ _ _ hy',show(setRow A.drew w.heap.size (i * 3) V2).drew.heap=(setRow A.drew w.heap.size (i * 3) V2).heap from rfl,Vm.setRow_heap _ _ _ _ _ hy'];exact a1 y hy
   ·rw[hw];exact Own.setRow _ own1 _
   ·rw[hw,fv _ own1 _ _ (by omega)]
    rcases Fj (n:=3) (by omega) (by omega) hj with⟨g1,g2⟩|⟨g1,g2,g3⟩|⟨g1,g2,g3⟩
    ·rw[if_neg (by omega),show(setRow A.drew w.heap.size (i * 3) V2).drew.cell? ⟨w.heap.size,0+j,none⟩=(setRow A.drew w.heap.size (i * 3) V2).cell? ⟨w.heap.size,0+j,none⟩ from rfl,fv V2 own0 _ _ (by omega),if_neg (by omega),Nat.zero_add,a7,k3 j g1]
     exact g2
    ·rw[if_neg (by omega),show(setRow A.drew w.heap.size (i * 3) V2).drew.cell? ⟨w.heap.size,0+j,none⟩=(setRow A.drew w.heap.size (i * 3) V2).cell? ⟨w.heap.size,0+j,none⟩ from rfl,fv V2 own0 _ _ (by omega),if_pos (by omega),Nat.zero_add]
     exact g3
    ·rw[if_pos (by omega),show 0+j-(i+1) * 3=j-(i * 3+3) by omega]
     exact g3
end Go.Proofs.YtlbnmldopjadoaaGreat
