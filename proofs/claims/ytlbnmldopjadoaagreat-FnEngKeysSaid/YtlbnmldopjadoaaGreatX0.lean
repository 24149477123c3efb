/- Sorting and clearing of doubles in the library, as contracts over data. -/
import Derived.Test.YtlbnmldopjadoaaGreatVc
import Derived.Shelf.Sort.Plain
import Derived.Shelf.Slices.In.SortNone
import Derived.Shelf.Slices.CompactI
import Derived.Shelf.Spec.SlicesGrow
import Derived.Laws.AppendOwn
namespace Go.Vm
open Go Go.Shelf Go.Sort Go.Proofs
variable {P:Program} {ρ:Ren}
abbrev rI (l:List Int):Rows:=l.map fun x=>[A.lit (.int .i64 x)]
theorem Da {w:World} {imm:Set} {b:Nat}:∀(l:List Int) (o:Nat) (S:Set),aq w imm none (rI l) b o 1 S→∀j (h:j<l.length),w.cell? ⟨b,o+j,none⟩=some (.int .i64 l[j])
 |[],_,_,_,j,h=>by simp at h
 |x::l,o,S,hr,j,h=>by
  simp only[List.map_cons,aq,ai] at hr
  obtain⟨S1,S2,_,⟨v,T1,T2,g1,g2,_⟩,h2,_⟩:=hr
  simp only[CR] at g2
  cases j with
  |zero=>simpa [g2] using g1
  |succ j=>have:=Da l (o+1) S2 h2 j (by simpa using h);simpa [Nat.add_assoc,Nat.add_comm 1 j] using this
theorem yj {w:World} {imm:Set} {b:Nat} {S:Set}:∀(l:List Int) (o:Nat),(∀j (h:j<l.length),w.cell? ⟨b,o+j,none⟩=some (.int .i64 l[j]))→aq w imm none (rI l) b o 1 S
 |[],_,_=>by simp only[List.map_nil,aq]
 |x::l,o,h=>by
  simp only[List.map_cons,aq,ai]
  refine⟨Set.no,S,rfl,⟨.int .i64 x,Set.no,Set.no,by have:=h 0 (by simp);simpa only[Nat.add_zero,List.getElem_cons_zero] using this,by simp only[CR],trivial,Set.no_le _,Set.no_le _,Set.no_dis _⟩,yj l (o+1) fun j hj=>?_,Set.no_le _,Set.le_refl _,Set.no_dis _⟩
  have:=h (j+1) (by simpa using hj)
  simpa [Nat.add_assoc,Nat.add_comm 1 j] using this
theorem BH {w:World} {imm:Set} {b o size:Nat} {l:List Int} {S:Set} (hown:Own w b size) (h:aq w imm none (rI l) b o 1 S):Holds (Value.int .i64) w b o l.toArray:=fun j hj=>by
 have hj':j<l.length:=by simpa using hj
 refine⟨?_,hown.frozen⟩
 rw[Da l o S h j hj']
 simp[hj']
/-- the world with one row laid anew, and more blocks -/
theorem BG {w:World} {n b o:Nat} {l l':List Int} {os:Array Obj} (hb:b<w.heap.size) (h0:Holds (Value.int .i64) w b o l.toArray) (hl:l'.length=l.length) {w':World} (hw:w'=grow (putRow (Value.int .i64) (Sort.ahead w n) b o l'.toArray) os) :
  (∀y,y<w.heap.size→y≠b→w'.heap[y]? =w.heap[y]?)∧w.heap.size≤w'.heap.size∧w'.os=w.os∧w'.output=w.output∧w'.tape=w.tape∧aO w w'∧(∀size,Own w b size→Own w' b size)∧
   ∀j (h:j<l'.length),w'.cell? ⟨b,o+j,none⟩=some (.int .i64 l'[j]):=by
 have far:∀y,y<w.heap.size→y≠b→w'.heap[y]? =w.heap[y]? :=fun y hy hne=>by
  subst hw
  rw[heap_grow_old _ _ (by simpa using hy)]
  simp[putRow,mapBlock,Sort.ahead,Array.getElem?_modify,Ne.symm hne]
 have near:∀c e fr,w.heap[b]? =some (.cells c e fr)→w'.heap[b]? =some (.cells (putCells (Value.int .i64) o l'.toArray c) e fr):=fun c e fr h=>by
  subst hw
  rw[heap_grow_old _ _ (by simpa using hb)]
  simp[putRow,mapBlock,Sort.ahead,Array.getElem?_modify,h,onCells]
 have sz:∀c,(putCells (Value.int .i64) o l'.toArray c).size=c.size:=fun c=>by simp[putCells]
 refine⟨far,by subst hw;simp,by subst hw;rfl,by subst hw;rfl,by subst hw;rfl,fun y c e fr h=>?_,fun size hown=>?_,fun j h=>?_⟩
 ·by_cases e1:y=b
  ·subst e1;exact⟨_,_,_,near c e fr h,sz c⟩
  ·have hy:y<w.heap.size:=(Array.getElem?_eq_some_iff.1 h).1
   exact⟨c,e,fr,by rw[far y hy e1];exact h,rfl⟩
 ·obtain⟨c,e,lo,hi,h1,h2,h3⟩:=hown
  exact⟨_,e,lo,hi,near c e _ h1,by rw[sz];exact h2,h3⟩
 ·subst hw
  rw[cell?_grow _ _ _ (by simpa using hb),cell?_putRow (Value.int .i64) (Sort.ahead w n) b o l.toArray l'.toArray (holds_ahead _ _ _ _ _ _ h0) (by simp[hl]) j (by simpa using h)]
  simp[h]
theorem C8 {w:World} {imm S:Set} {a:A} {vs:List Value} (h:af w imm none [a] vs S):∃v,vs=[v]∧CR w imm none a v S:=by
 match vs,h with
 |[],h=>simp only[af] at h
 |[v],h=>simp only[af] at h;obtain⟨S1,S2,h1,_,h3,_⟩:=h;exact⟨v,rfl,h1.mono h3⟩
 |_::_::_,h=>simp only[af] at h;obtain⟨_,_,_,h,_⟩:=h;exact h.elim
theorem sortW (L:Lays.n189 P ρ) {l:List Int} (hl:l.length<4611686018427387904):ah P (ρ.f 189) [.inl 1 (rI l)] [.inl 1 (rI (l.mergeSort fun x y=>decide (x≤y)))] (.tup []):=by
 refine⟨⟨_,L.f189,by rfl,by rfl⟩,fun w imm S vs hv hd hi hS=>?_⟩
 obtain⟨u,rfl,hu⟩:=C8 hv
 simp only[CR] at hu
 obtain⟨a,cap,rfl,hu⟩:=hu
 simp only[List.length_map] at hu⊢
 have nl:(l.mergeSort fun x y=>decide (x≤y)).length=l.length:=List.length_mergeSort l
 have stay:∀p:Option Addr,l=[]→Calls P (ρ.f 189) #[.slice p l.length cap] w fun e w'=>e= .returned (.tuple #[])∧w'=w:=fun p e=>by subst e;exact Any.slices_Sort_int_none L p cap w
 by_cases he:l=[]
 ·refine Calls.mono' (stay a he) ?_
  rintro e w' ⟨rfl,rfl⟩
  refine⟨imm,S,Set.no,Set.le_refl _,?_,?_,fun _ _ h=>h,hd,Set.no_dis _,fun b hb=>?_,fun b hb=>⟨hi b hb,.inl hb⟩,fun _ _ _=>rfl,Nat.le_refl _,rfl,rfl,rfl,aO.refl _,by simp[KB],by simp[KB]⟩
  ·refine af.of_one ?_
   have:(l.mergeSort fun x y=>decide (x≤y))=l:=by rw[he];simp
   rw[this]
   simp only[CR,List.length_map]
   exact⟨a,cap,rfl,hu⟩
  ·simp only[CR];exact⟨[],rfl,by simp only[af]⟩
  ·rcases hb with hb|hb
   ·exact⟨hS b hb,.inl hb⟩
   ·exact hb.elim
 rcases hu with⟨_,_,h⟩|⟨b,o,size,S',rfl,h1,h2,h3,h4,h5,h6,h7,h8⟩
 ·exact absurd (List.map_eq_nil_iff.1 h) he
 have hb:=hS b h1
 have H:=BH h4 h8
 refine Calls.mono' (Any.slices_Sort_int L b o cap l w H hb hl) ?_
 rintro e w' ⟨rfl,n,os,hw⟩
 obtain⟨k1,k2,k3,k4,k5,k6,k7,k8⟩:=BG hb H nl hw
 refine⟨imm,S,Set.no,Set.le_refl _,?_,?_,fun _ _ h=>h,hd,Set.no_dis _,fun b hb=>?_,fun b hb=>⟨Nat.lt_of_lt_of_le (hi b hb) k2,.inl hb⟩,fun y hy hne=>k1 y hy (fun e=>hne (by rw[e];exact h1)),k2,k3,k4,k5,k6,by simp[KB],by simp[KB]⟩
 ·refine af.of_one ?_
  simp only[CR,List.length_map,nl]
  exact⟨_,cap,rfl,.inr ⟨b,o,size,S',rfl,h1,h2,h3,k7 size h4,h5,h6,h7,yj _ o k8⟩⟩
 ·simp only[CR];exact⟨[],rfl,by simp only[af]⟩
 ·rcases hb with hb|hb
  ·exact⟨Nat.lt_of_lt_of_le (hS b hb) k2,.inl hb⟩
  ·exact hb.elim
theorem oG (x:Int) (t:List Int):Lib.compact (x::t)=x::((List.range t.length).filter fun j=>decide (t[j]! ≠(x::t)[j]!)).map (t[·]!):=by
 unfold Lib.compact Lib.compactUpTo
 rw[List.length_cons,List.range_succ_eq_map,List.filter_cons_of_pos (by simp[Lib.keeps]),List.map_cons,List.filter_map,List.map_map]
 congr 1
 congr 1
 ·funext j;simp
 ·congr 1
  funext j
  simp[Lib.keeps]
theorem sM:∀l:List Int,uniq l=Lib.compact l
 |[]=>rfl
 |[x]=>by rw[oG];rfl
 |x::y::l=>by
  have ih:=sM (y::l)
  rw[oG] at ih
  rw[oG,List.length_cons,List.range_succ_eq_map,List.filter_cons,List.filter_map]
  unfold uniq
  rw[ih]
  by_cases h:x=y
  ·subst h
   simp[Function.comp_def]
  ·have h':¬y=x:=fun e=>h e.symm
   simp[Function.comp_def,h,h']
theorem A6:∀l:List Int,(uniq l).length≤l.length
 |[]=>Nat.le_refl _
 |[x]=>Nat.le_refl _
 |x::y::l=>by
  have:=A6 (y::l)
  unfold uniq
  split <;> simp at this⊢ <;> omega
theorem F9 (L:Lays2.n20 P ρ) {l:List Int} (hl:l.length<4611686018427387904):ah P (ρ.f 20) [.inl 1 (rI l)] [.hole] (.tree (rI (uniq l))):=by
 refine⟨⟨_,L.f20,by rfl,by rfl⟩,fun w imm S vs hv hd hi hS=>?_⟩
 obtain⟨u,rfl,hu⟩:=C8 hv
 simp only[CR] at hu
 obtain⟨a,cap,rfl,hu⟩:=hu
 simp only[List.length_map] at hu⊢
 have stay:∀p:Option Addr,l=[]→Calls P (ρ.f 20) #[.slice p l.length cap] w fun e w'=>e= .returned (.slice p 0 cap)∧w'=w:=fun p e=>by subst e;exact Any.slices_Compact_int_empty L p cap w
 by_cases he:l=[]
 ·refine Calls.mono' (stay a he) ?_
  rintro e w' ⟨rfl,rfl⟩
  refine⟨imm,Set.no,Set.no,Set.le_refl _,af.of_one (by simp only[CR]),?_,fun _ h _=>h,Set.no_dis _,Set.no_dis _,fun b hb=>hb.elim (fun h=>h.elim) (fun h=>h.elim),fun b hb=>⟨hi b hb,.inl hb⟩,fun _ _ _=>rfl,Nat.le_refl _,rfl,rfl,rfl,aO.refl _,by simp[KB],by simp[KB]⟩
  rw[he]
  simp only[uniq,List.map_nil,CR,List.length_nil]
  exact⟨a,cap,rfl,Nat.zero_le _,.inl trivial⟩
 rcases hu with⟨_,_,h⟩|⟨b,o,size,S',rfl,h1,h2,h3,h4,h5,h6,h7,h8⟩
 ·exact absurd (List.map_eq_nil_iff.1 h) he
 have hb:=hS b h1
 have H:=BH h4 h8
 refine Calls.mono' (Any.slices_Compact_int L b o cap l w H (by omega) h7) ?_
 rintro e w' ⟨rfl,n,hw⟩
 rw[←sM] at hw⊢
 have hn:=A6 l
 have nl:(uniq l++List.replicate (l.length-(uniq l).length) 0).length=l.length:=by simp;omega
 obtain⟨k1,k2,k3,k4,k5,k6,k7,k8⟩:=BG (os:= #[]) hb H nl (hw.trans (grow_empty _).symm)
 refine⟨fun y=>imm y∨S y,Set.no,Set.no,fun y hy=>.inl hy,af.of_one (by simp only[CR]),?_,fun _ h _=>h,Set.no_dis _,Set.no_dis _,fun b hb=>hb.elim (fun h=>h.elim) (fun h=>h.elim),fun b hb=>hb.elim (fun h=>⟨Nat.lt_of_lt_of_le (hi b h) k2,.inl h⟩) (fun h=>⟨Nat.lt_of_lt_of_le (hS b h) k2,.inr (.inl h)⟩),fun y hy hne=>k1 y hy (fun e=>hne (by rw[e];exact h1)),k2,k3,k4,k5,k6,by simp[KB],by simp[KB]⟩
 simp only[CR,List.length_map]
 refine⟨_,cap,rfl,by omega,.inr ⟨b,o,1,rfl,.inr h1,yj _ o fun j hj=>?_⟩⟩
 have:=k8 j (by rw[nl];omega)
 rw[List.getElem_append_left hj] at this
 exact this
theorem GM {w:World} {imm S:Set} {a a':A} {vs:List Value} (h:af w imm none [a,a'] vs S):∃v v',vs=[v,v']∧CR w imm none a v S∧CR w imm none a' v' S:=by
 match vs,h with
 |[],h=>simp only[af] at h
 |[_],h=>simp only[af] at h;obtain⟨_,_,_,h,_⟩:=h;exact h.elim
 |[v,v'],h=>
  simp only[af] at h
  obtain⟨S1,S2,h1,⟨T1,T2,g1,_,g3,_⟩,h3,h4,_⟩:=h
  exact⟨v,v',rfl,h1.mono h3,(g1.mono g3).mono h4⟩
 |_::_::_::_,h=>simp only[af] at h;obtain⟨_,_,_,⟨_,_,_,h,_⟩,_⟩:=h;exact h.elim
/-- a new row after nothing -/
theorem growW (L:Lays8.n4 P ρ) {i0:TypeInfo} {z:Value} (hi0:P.info? (ρ.t 25)=some i0) (hz0:i0.zero=some z) (hs0:i0.size=1) (hz1:z.cells.size=1) (hb0:i0.bytes=8) {n:Int} (hn:0≤n) (hl:n.toNat * 8≤140737488355328) :
  ah P (ρ.f 4) [.lit (.slice none 0 0),.lit (.int .i64 n)] [.hole,.hole] (.inl 1 []):=by
 obtain⟨nm,hnm,FG⟩:=L.f4
 refine⟨⟨_,FG,hnm,by rfl⟩,fun w imm S vs hv hd hi hS=>?_⟩
 obtain⟨u,u',rfl,hu,hu'⟩:=GM hv
 simp only[CR] at hu hu'
 subst hu hu'
 obtain⟨m,rfl⟩:∃m:Nat,n=m:=⟨n.toNat,by omega⟩
 simp only[Int.toNat_natCast] at hl
 have fine:∀(u:Value) (us:List Value) (S:Set),af w imm none [.hole,.hole] [.slice none 0 0,.int .i64 m] S:=fun _ _ S=>by
  simp only[af]
  exact⟨Set.no,Set.no,by simp only[CR],⟨Set.no,Set.no,by simp only[CR],trivial,Set.no_le _,Set.no_le _,Set.no_dis _⟩,Set.no_le _,Set.no_le _,Set.no_dis _⟩
 by_cases h0:m=0
 ·subst h0
  refine Calls.mono' (Any8.slices_Grow_room L none 0 0 0 w (by omega) (by omega) (by omega) (by omega)) ?_
  rintro e w' ⟨rfl,rfl⟩
  refine⟨imm,Set.no,Set.no,Set.le_refl _,fine (.bool true) [] _,?_,fun _ h _=>h,Set.no_dis _,Set.no_dis _,fun b hb=>hb.elim (fun h=>h.elim) (fun h=>h.elim),fun b hb=>⟨hi b hb,.inl hb⟩,fun _ _ _=>rfl,Nat.le_refl _,rfl,rfl,rfl,aO.refl _,by simp[KB],by simp[KB]⟩
  simp only[CR,List.length_nil]
  exact⟨none,0,rfl,.inl ⟨rfl,rfl,trivial⟩⟩
 ·refine Calls.mono' (Any8.slices_Grow_grow L i0 z hi0 hz0 (by omega) none 0 0 m [] w (by omega) (by omega) (by rw[hb0];omega) (by omega) (by simp) (fun _=>rfl) (fun a h=>by cases h)) ?_
  rintro e w' ⟨rfl,hw⟩
  generalize grownCap w (0+m) 0 (ρ.t 25)=G at hw⊢
  rw[alloc_eq_grow] at hw
  have far:∀y,y<w.heap.size→w'.heap[y]? =w.heap[y]? :=fun y hy=>by rw[hw];exact heap_grow_old w.drew _ hy
  have hsz:w'.heap.size=w.heap.size+1:=by rw[hw,size_grow];rfl
  refine⟨imm,Set.no,fun y=>y=w.heap.size,Set.le_refl _,fine (.bool true) [] _,?_,fun _ h _=>h,Set.no_dis _,fun b hb hi'=>by subst hb;exact Nat.lt_irrefl _ (hi _ hi'),fun b hb=>?_,fun b hb=>⟨by rw[hsz];exact Nat.lt_succ_of_lt (hi b hb),.inl hb⟩,fun y hy _=>far y hy,by omega,by subst hw;rfl,by subst hw;rfl,by subst hw;rfl,aO.same far,by simp[KB],by simp[KB]⟩
  ·simp only[CR,List.length_nil]
   refine⟨_,_,rfl,.inr ⟨w.heap.size,0,m+(G-m),Set.no,rfl,rfl,fun h=>h,Set.no_le _,?_,?_,Nat.zero_le _,Nat.zero_le _,by simp only[aq]⟩⟩
   ·refine⟨_,_,0,0,by rw[hw];show(w.heap++ #[_])[w.heap.size]? =_;rw[Array.getElem?_append_right (Nat.le_refl _),Nat.sub_self];rfl,?_,Nat.le_refl _⟩
    rw[Array.size_append,Array.size_append,size_zeroCells,size_zeroCells,hz1]
    simp
   ·omega
  ·rcases hb with hb|hb
   ·exact hb.elim
   ·subst hb;exact⟨by omega,.inr (Nat.le_refl _)⟩
end Go.Vm
