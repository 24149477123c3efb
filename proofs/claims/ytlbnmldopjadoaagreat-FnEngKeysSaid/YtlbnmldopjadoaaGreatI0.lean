/- Insertion of rows of three cells: the four roads of the library's text. -/
import Derived.Shelf.Spec.SlicesInsertGrow
import Derived.Test.YtlbnmldopjadoaaGreatProg
set_option linter.unusedVariables false
set_option linter.unusedSimpArgs false
namespace Go.Proofs.YtlbnmldopjadoaaGreat
open Go Go.Shelf Go.RowKit Go.Lib Go.Proofs
theorem kV {P:Program} (k:Nat) (w:World) (dT sT ty elem:TypeId) (b o dLen dCap:Nat) (a:Addr) (sLen sCap n:Nat) (cs:List Value)
  (hu:P.underlying dT=some (.slice elem)) (hs:(P.info? elem).map (·.size)=some k) (hm:n=Nat.min sLen dLen) (hn:cs.length=n * k)
  (hsrc:∀j v,cs[j]? =some v→w.cell? (a.add j)=some v) (hc:∀j,j<cs.length→(w.cell? ⟨b,o+j,none⟩).isSome=true) (hf:∀j,j<cs.length→w.frozen? ⟨b,o+j,none⟩=false) (h1:∀v∈cs,v.oneCell'=true) :
  (Builtin.copy_ #[dT,sT] ty #[.slice (some ⟨b,o,none⟩) dLen dCap,.slice (some a) sLen sCap]).run P w= .ok (goInt n) (w.setCells b o cs):=by
 have hl:=run_loadCells_list (P:=P) w a cs hsrc
 have hst:=run_storeCells_cells (P:=P) b o cs 0 w (by simpa using hc) (by simpa using hf) h1
 cases hq:P.info? elem with
 |none=>simp[hq] at hs
 |some i=>
  have hi:i.size=k:=by simpa [hq] using hs
  simp[Builtin.copy_,run_underlying hu,Builtin.lenOf,Builtin.firstCells,sizeOf,typeInfo,hq,hi,←hm,←hn,hl,hst]
set_option maxHeartbeats 4000000 in
set_option maxRecDepth 100000 in
/-- room, ahead of the end -/
theorem BT (b off n c i vb voff m vc:Nat) (cs vs:List Value) (w:World) (hi:i<n) (hm:0<m) (hroom:n+m≤c) (hn63:n+m≤4611686018427387904) (hvb:vb≠b)
  (hcl:cs.length=n * 3) (hvl:vs.length=m * 3)
  (hcs:∀j v,cs[j]? =some v→w.cell? ⟨b,off+j,none⟩=some v) (hsp:∀j,j<(n+m) * 3→(w.cell? ⟨b,off+j,none⟩).isSome=true) (hfz:∀j,j<(n+m) * 3→w.frozen? ⟨b,off+j,none⟩=false)
  (hvs:∀j v,vs[j]? =some v→w.cell? ⟨vb,voff+j,none⟩=some v) (h1c:∀v∈cs,v.oneCell'=true) (h1v:∀v∈vs,v.oneCell'=true)
  (tA tB:TypeId) (kA kB:Nat) (hsa:w.shape? vb=some (tA,kA)) (hsb:w.shape? b=some (tB,kB)) (hkB:kB≠0) (hfa:w.frozen? ⟨vb,voff,none⟩=false) (hfe:w.frozen? ⟨vb,kA,none⟩=false) :
  Calls Tryz.prog 183 #[.slice (some ⟨b,off,none⟩) n c,.int .i64 i,.slice (some ⟨vb,voff,none⟩) m vc] w fun e w'=>
   e= .returned (.slice (some ⟨b,off,none⟩) (n+m) c)∧w'=(w.drew.setCells b (off+(i+m) * 3) (cs.drop (i * 3))).setCells b (off+i * 3) vs:=by
 have hz1:¬((m:Int)=0):=by omega
 have hz2:¬((i:Int)=(n:Int)):=by omega
 have hsz:(Tryz.prog.info? 67).map (·.size)=some 3:=by kernel_rfl
 have hov:∀lb cb,(callFunc 214 #[.slice (some ⟨vb,voff,none⟩) m vc,.slice (some ⟨b,off+(i+m) * 3,none⟩) lb cb]).run Tryz.prog w= .ok (.value (.bool false)) w:=fun lb cb=>by
  rw[run_callFunc_extern Tryz.func214 (by kernel_rfl) (by kernel_rfl) (by kernel_rfl) (e:=Extern.SlicesOverlaps.overlaps #[36,36] #[4]) (by kernel_rfl),
   Lib.run_overlaps_apart w 36 4 67 Tryz.underlying36 3 Tryz.sizeOf67 ⟨vb,voff,none⟩ ⟨b,off+(i+m) * 3,none⟩ m vc lb cb hvb tA tB kA kB hsa hsb hkB hfa hfe]
  rfl
 have hdl:(cs.drop (i * 3)).length=(n-i) * 3:=by rw[List.length_drop,hcl];omega
 have mixed:Tryz.prog.follows .mixedOrders=true:=by kernel_rfl
 have hw1:IntKind.i64.wrap ((i:Int)+(m:Int))=(i:Int)+(m:Int):=by rw[IntKind.wrap_i64];omega
 have hb1:(0:Int)≤(i:Int)+(m:Int):=by omega
 have hin:i≤n:=by omega
 have htn:((i:Int)+(m:Int)).toNat=i+m:=by omega
 have hb2:¬(c=i+m):=by omega
 have hb3:(i:Int)≤(n:Int)+(m:Int):=by omega
 have hb4:¬(c=i):=by omega
 have hcp1:∀ty dc sc,(Builtin.copy_ #[36,36] ty #[.slice (some ⟨b,off+(i+m) * 3,none⟩) (n+m-(i+m)) dc,.slice (some ⟨b,off+i * 3,none⟩) (n+m-i) sc]).run Tryz.prog w.drew= .ok (goInt ((n-i:Nat):Int)) (w.drew.setCells b (off+(i+m) * 3) (cs.drop (i * 3))):=fun ty dc sc=>
  kV 3 w.drew _ _ ty 67 b (off+(i+m) * 3) (n+m-(i+m)) dc ⟨b,off+i * 3,none⟩ (n+m-i) sc (n-i) (cs.drop (i * 3)) Tryz.underlying36 hsz (by simp only[Nat.min_def];split <;> omega) hdl
   (fun j v hj=>by rw[Addr.add_lit,Nat.add_assoc];exact hcs (i * 3+j) v (by rwa [List.getElem?_drop] at hj))
   (fun j hj=>by rw[Nat.add_assoc];exact hsp _ (by omega)) (fun j hj=>by rw[Nat.add_assoc];exact hfz _ (by omega)) (fun v hv=>h1c v (List.mem_of_mem_drop hv))
 obtain⟨W1,hW1⟩:∃W1,W1=w.drew.setCells b (off+(i+m) * 3) (cs.drop (i * 3)):=⟨_,rfl⟩
 have hsp1:∀k,k<(n+m) * 3→(W1.cell? ⟨b,off+k,none⟩).isSome=true:=fun k hk=>by
  rw[hW1]
  exact isSome_setCells b _ _ _ (fun j hj=>by rw[Nat.add_assoc];exact hsp _ (by omega)) _ (hsp k hk)
 have hcp2:∀(W:World),(∀x,W.cell? x=W1.cell? x)→(∀x,W.frozen? x=W1.frozen? x)→∀ty dc,(Builtin.copy_ #[36,36] ty #[.slice (some ⟨b,off+i * 3,none⟩) (n+m-i) dc,.slice (some ⟨vb,voff,none⟩) m vc]).run Tryz.prog W= .ok (goInt m) (W.setCells b (off+i * 3) vs):=fun W hWc hWf ty dc=>
  kV 3 W _ _ ty 67 b (off+i * 3) (n+m-i) dc ⟨vb,voff,none⟩ m vc m vs Tryz.underlying36 hsz (by simp only[Nat.min_def];split <;> omega) hvl
   (fun j v hj=>by
    rw[Addr.add_lit,hWc,hW1,World.cell?_setCells_out b _ _ _ _ (fun h _=>absurd h hvb)]
    exact hvs j v hj)
   (fun j hj=>by rw[hWc,Nat.add_assoc];exact hsp1 _ (by omega)) (fun j hj=>by rw[hWf,hW1,World.frozen?_setCells,Nat.add_assoc];exact hfz _ (by omega)) h1v
 rw[←hW1] at hcp1
 go_enter Tryz.func183,Tryz.ntmps183
 go_wp2_with (simp only[hov])
 go_region_law_o (refine step_copy_runI rfl _ _ 36 36 rfl _ _ (by simp[Act.eval,Act.put]) (by simp[Act.eval,Act.put]) (hcp1 _ _ _) ?_)
 go_wp2_with (at_builtin;refine wpList_copy_runI _ rfl _ _ 36 36 rfl _ _ rfl rfl (hcp2 _ (fun _=>rfl) (fun _=>rfl) _ _) ?_)
 go_ret
 first|exact⟨rfl,rfl⟩|exact⟨rfl,by rw[hW1]⟩
theorem qB {P:Program} (k:Nat) (w:World) {ops:Array Oper} {rest:List Oper} {o:Oper} {a:Act} {Q:Exit→Act→World→Prop}
  (hg:o.guard=none) (s x:Operand) (t tx:TypeId) (hop:o.op=Op.call { callee:=Callee.builtin Builtin.append,args:= #[s,x],argTypes:= #[t,tx] })
  (e:TypeId) (i:TypeInfo) (ht:P.underlying t=some (.slice e)) (hi:P.info? e=some i) (hk:i.size=k)
  (b off sLen sCap:Nat) (hs:a.eval s= .slice (some ⟨b,off,none⟩) sLen sCap) (xv:Value) (hx:a.eval x=xv) (n:Nat) (news:List Value) (hsrc:Src P k tx xv n news w)
  (hroom:sLen+n≤sCap) (hc:∀j,j<news.length→(w.cell? ⟨b,off+sLen * k+j,none⟩).isSome=true) (hf:∀j,j<news.length→w.frozen? ⟨b,off+sLen * k+j,none⟩=false)
  (hK:wpList P ops Q rest (a.put o.dst (.slice (some ⟨b,off,none⟩) (sLen+n) sCap)) (w.setCells b (off+sLen * k) news)):wpList P ops Q (o::rest) a w:=by
 subst hk
 exact wpList_append_room_src w hg s x t tx hop e i ht hi b off sLen sCap hs xv hx n news hsrc hroom hc hf hK
set_option maxHeartbeats 4000000 in
set_option maxRecDepth 100000 in
/-- room, at the end -/
theorem vZ (b off n c vb voff m vc:Nat) (vs:List Value) (w:World) (hm:0<m) (hroom:n+m≤c) (hn63:n+m≤4611686018427387904)
  (hvl:vs.length=m * 3) (hsp:∀j,j<m * 3→(w.cell? ⟨b,off+n * 3+j,none⟩).isSome=true) (hfz:∀j,j<m * 3→w.frozen? ⟨b,off+n * 3+j,none⟩=false)
  (hvs:∀j v,vs[j]? =some v→w.cell? ⟨vb,voff+j,none⟩=some v) (h1v:∀v∈vs,v.oneCell'=true) :
  Calls Tryz.prog 183 #[.slice (some ⟨b,off,none⟩) n c,.int .i64 n,.slice (some ⟨vb,voff,none⟩) m vc] w fun e w'=>
   e= .returned (.slice (some ⟨b,off,none⟩) (n+m) c)∧w'=w.setCells b (off+n * 3) vs:=by
 have mixed:Tryz.prog.follows .mixedOrders=true:=by kernel_rfl
 have hz1:¬((m:Int)=0):=by omega
 have hinf:Tryz.prog.info? 67=some Tryz.t67:=by kernel_rfl
 have hsrc:Src Tryz.prog 3 36 (.slice (some ⟨vb,voff,none⟩) m vc) m vs w:=Src.ofSlice w Tryz.underlying36 ⟨vb,voff,none⟩ m vc vs hvl (fun j u hj=>by rw[Addr.add_lit];exact hvs j u hj) h1v
 go_enter Tryz.func183,Tryz.ntmps183
 go_wp2_with (at_builtin;refine qB 3 _ rfl _ _ 36 36 rfl 67 Tryz.t67 Tryz.underlying36 hinf (by kernel_rfl) b off n c rfl _ rfl m vs hsrc hroom (by rw[hvl];exact hsp) (by rw[hvl];exact hfz) ?_)
 go_ret
 exact⟨rfl,rfl⟩
set_option maxHeartbeats 4000000 in
set_option maxRecDepth 100000 in
/-- no room, at the end -/
theorem pd (base:Option Addr) (n c vb voff m vc:Nat) (cs vs:List Value) (w:World) (hm:0<m) (hnc:n≤c) (hroom:c<n+m) (hbig:(n+m) * 40≤140737488355328)
  (hcl:cs.length=n * 3) (hvl:vs.length=m * 3) (hnil:base=none→n=0)
  (hcs:∀a,base=some a→∀j v,cs[j]? =some v→w.cell? (a.add j)=some v)
  (hvs:∀j v,vs[j]? =some v→w.cell? ⟨vb,voff+j,none⟩=some v) (h1v:∀v∈vs,v.oneCell'=true) :
  Calls Tryz.prog 183 #[.slice base n c,.int .i64 n,.slice (some ⟨vb,voff,none⟩) m vc] w fun e w'=>
   ∃G R,n+m≤G∧R.size=(G-(n+m)) * 3∧e= .returned (.slice (some ⟨w.heap.size,0,none⟩) (n+m) G)∧w'=w.drew.alloc (.cells ((cs++vs).toArray++R) 67):=by
 have mixed:Tryz.prog.follows .mixedOrders=true:=by kernel_rfl
 have hinf:Tryz.prog.info? 67=some Tryz.t67:=by kernel_rfl
 have hz0:∃z:Value,Tryz.t67.zero=some z∧z.cells.size=3:=⟨_,rfl,by kernel_rfl⟩
 obtain⟨z,hz0,hzc⟩:=hz0
 have hz1:¬((m:Int)=0):=by omega
 have hsrc:Src Tryz.prog Tryz.t67.size 36 (.slice (some ⟨vb,voff,none⟩) m vc) m vs w:=Src.ofSlice w Tryz.underlying36 ⟨vb,voff,none⟩ m vc vs (by rw[hvl];rfl) (fun j u hj=>by rw[Addr.add_lit];exact hvs j u hj) h1v
 have hold:(Builtin.firstCells Tryz.t67.size n (.slice base n c)).run Tryz.prog w.drew= .ok cs.toArray w.drew:=by
  cases base with
  |none=>
   have h0:=hnil rfl
   subst h0
   rw[List.length_eq_zero_iff.1 (show cs.length=0 by simpa using hcl)]
   exact run_firstCells_none w.drew _ 0 0 c
  |some a=>exact run_firstCells_some w.drew _ n a n c cs (by rw[hcl];rfl) (fun j v hj=>hcs a rfl j v hj)
 have hrun:∀ty,(Builtin.append_ #[36,36] ty #[.slice base n c,.slice (some ⟨vb,voff,none⟩) m vc]).run Tryz.prog w=_:=fun ty=>
  run_append_grow_src w 36 36 ty 67 Tryz.t67 _ Tryz.underlying36 hinf hz0 base n c cs hold _ m vs hsrc hroom (by omega) (by rw[show Tryz.t67.bytes=40 from rfl];exact growslice_fits hroom hbig)
 refine Calls.mono (R:=fun e w'=>e= .returned (.slice (some ⟨w.heap.size,0,none⟩) (n+m) (grownCap w (n+m) c 67))∧
   w'=w.drew.alloc (.cells ((cs++vs).toArray++Builtin.zeroCells z.cells (grownCap w (n+m) c 67-(n+m))) 67)) ?_ (fun e w' h=>⟨_,_,grownCap_ge w _ _ _,by rw[size_zeroCells,hzc],h.1,h.2⟩)
 generalize grownCap w (n+m) c 67=G at hrun⊢
 generalize Builtin.zeroCells z.cells (G-(n+m))=R at hrun⊢
 go_enter Tryz.func183,Tryz.ntmps183
 cases base with
 |none=>
  have h0:=hnil rfl
  subst h0
  go_wp2_with (at_builtin;refine Lib.wpList_append_run _ rfl _ _ _ _ rfl _ _ rfl rfl _ _ (hrun _) ?_)
  go_ret
  exact⟨rfl,rfl⟩
 |some a=>
  obtain⟨ab,ao,asp⟩:=a
  go_wp2_with (at_builtin;refine Lib.wpList_append_run _ rfl _ _ _ _ rfl _ _ rfl rfl _ _ (hrun _) ?_)
  all_goals (go_ret;exact⟨rfl,rfl⟩)
set_option maxHeartbeats 4000000 in
set_option maxRecDepth 100000 in
/-- no room, ahead of the end -/
theorem CD (b off n c i vb voff m vc:Nat) (cs vs:List Value) (w:World) (hi:i<n) (hm:0<m) (hnc:n≤c) (hroom:c<n+m) (hbig:(n+m) * 40≤140737488355328)
  (hcl:cs.length=n * 3) (hvl:vs.length=m * 3)
  (hcs:∀j v,cs[j]? =some v→w.cell? ⟨b,off+j,none⟩=some v)
  (hvs:∀j v,vs[j]? =some v→w.cell? ⟨vb,voff+j,none⟩=some v) (h1c:∀v∈cs,v.oneCell'=true) (h1v:∀v∈vs,v.oneCell'=true) :
  Calls Tryz.prog 183 #[.slice (some ⟨b,off,none⟩) n c,.int .i64 i,.slice (some ⟨vb,voff,none⟩) m vc] w fun e w'=>
   ∃G ROW,n+m≤G∧ROW.size=G * 3∧(∀j,j<i * 3→ROW[j]? =cs[j]?)∧e= .returned (.slice (some ⟨w.heap.size,0,none⟩) (n+m) G)∧
   w'=(((w.alloc (.cells ROW 67)).drew.setCells w.heap.size (i * 3) vs).drew).setCells w.heap.size ((i+m) * 3) (cs.drop (i * 3)):=by
 have mixed:Tryz.prog.follows .mixedOrders=true:=by kernel_rfl
 have hinf:Tryz.prog.info? 67=some Tryz.t67:=by kernel_rfl
 have hz0:∃z:Value,Tryz.t67.zero=some z∧z.cells.size=3:=⟨_,rfl,by kernel_rfl⟩
 obtain⟨z,hz0,hzc⟩:=hz0
 have hzs:Tryz.t67.size=3:=rfl
 have hzb:Tryz.t67.bytes=40:=rfl
 have hz1:¬((m:Int)=0):=by omega
 have hz2:¬((i:Int)=(n:Int)):=by omega
 have hz3:(c:Int)<(n:Int)+(m:Int):=by omega
 have hsz:(Tryz.prog.info? 67).map (·.size)=some 3:=by kernel_rfl
 have hbw:b<w.heap.size:=block_lt_of_cell (hcs 0 _ (List.getElem?_eq_getElem (by omega)))
 have hvw:vb<w.heap.size:=block_lt_of_cell (hvs 0 _ (List.getElem?_eq_getElem (by omega)))
 have hkk:(n:Int)+(m:Int)-(i:Int)=((n+m-i:Nat):Int):=by omega
 have hik:i+(n+m-i)=n+m:=by omega
 have hold:(Builtin.firstCells Tryz.t67.size i (.slice (some ⟨b,off,none⟩) i c)).run Tryz.prog w.drew= .ok (cs.take (i * 3)).toArray w.drew:=by
  rw[hzs]
  exact run_firstCells_some w.drew 3 i ⟨b,off,none⟩ i c (cs.take (i * 3)) (by rw[List.length_take];omega) (fun j v hj=>by
   rw[Addr.add_lit]
   rw[List.getElem?_take] at hj
   split at hj
   ·exact hcs j v hj
   ·cases hj)
 have hrz:∀ty,(Builtin.append_ #[36,3] ty #[.slice (some ⟨b,off,none⟩) i c,.int .i64 ((n:Int)+(m:Int)-(i:Int))]).run Tryz.prog w =
   .ok (.slice (some ⟨w.heap.size,0,none⟩) (n+m) (grownCap w (n+m) c 67)) (w.drew.alloc (.cells ((cs.take (i * 3)).toArray++Builtin.zeroCells z.cells (n+m-i)++Builtin.zeroCells z.cells (grownCap w (n+m) c 67-(n+m))) 67)):=fun ty=>by
  have h:=Lib.run_append_grow_zeros w 36 3 ty 67 Tryz.t67 _ .i64 .i64 Tryz.underlying36 Tryz.underlying3 hinf hz0 (some ⟨b,off,none⟩) i c (cs.take (i * 3)) hold (n+m-i) (by omega) (by omega) (by omega) (by omega) (by rw[hzb];omega) (by rw[hzb,hik];exact growslice_fits hroom hbig)
  rw[hik] at h
  rw[hkk]
  exact h
 have hGn:n+m≤grownCap w (n+m) c 67:=grownCap_ge w _ _ _
 have hG63:grownCap w (n+m) c 67≤9223372036854775807:=by
  have:=grownCap_le_maxLen w (n+m) c 67 (by unfold maxLen;omega)
  unfold maxLen at this
  omega
 generalize grownCap w (n+m) c 67=G at hrz hGn hG63
 have hRs:((cs.take (i * 3)).toArray++Builtin.zeroCells z.cells (n+m-i)++Builtin.zeroCells z.cells (G-(n+m))).size=G * 3:=by
  simp only[Array.size_append,size_zeroCells,hzc,List.size_toArray,List.length_take]
  omega
 have hRh:∀j,j<i * 3→((cs.take (i * 3)).toArray++Builtin.zeroCells z.cells (n+m-i)++Builtin.zeroCells z.cells (G-(n+m)))[j]? =cs[j]? :=fun j hj=>by
  have h1:j<(cs.take (i * 3)).toArray.size:=by simp;omega
  rw[Array.getElem?_append_left (by rw[Array.size_append];omega),Array.getElem?_append_left h1]
  simp[List.getElem?_take,hj]
 generalize (cs.take (i * 3)).toArray++Builtin.zeroCells z.cells (n+m-i)++Builtin.zeroCells z.cells (G-(n+m))=ROW at hrz hRs hRh
 have hRl:(n+m) * 3≤ROW.size:=by rw[hRs];omega
 obtain⟨W1,hW1⟩:∃W1,W1=w.drew.alloc (.cells ROW 67):=⟨_,rfl⟩
 rw[←hW1] at hrz
 have hN:∀j,j<(n+m) * 3→(W1.cell? ⟨w.heap.size,j,none⟩).isSome=true:=fun j hj=>by
  rw[hW1,World.cell?_alloc_at (w:=w.drew) ROW _ w.heap.size j rfl,Array.getElem?_eq_getElem (by omega)];rfl
 have hNf:∀j,W1.frozen? ⟨w.heap.size,j,none⟩=false:=fun j=>by rw[hW1];exact World.frozen?_alloc_at (w:=w.drew) ROW _ w.heap.size j rfl
 have hOb:∀j v,w.cell? ⟨b,j,none⟩=some v→W1.cell? ⟨b,j,none⟩=some v:=fun j v h=>by rw[hW1,World.cell?_alloc_past (w:=w.drew) _ b j hbw];exact h
 have hOv:∀j v,w.cell? ⟨vb,j,none⟩=some v→W1.cell? ⟨vb,j,none⟩=some v:=fun j v h=>by rw[hW1,World.cell?_alloc_past (w:=w.drew) _ vb j hvw];exact h
 have hcpA:∀(W:World),(∀x,W.cell? x=W1.cell? x)→(∀x,W.frozen? x=W1.frozen? x)→∀ty dc,(Builtin.copy_ #[36,36] ty #[.slice (some ⟨w.heap.size,i * 3,none⟩) (n+m-i) dc,.slice (some ⟨vb,voff,none⟩) m vc]).run Tryz.prog W= .ok (goInt m) (W.setCells w.heap.size (i * 3) vs):=fun W hWc hWf ty dc=>
  kV 3 W _ _ ty 67 w.heap.size (i * 3) (n+m-i) dc ⟨vb,voff,none⟩ m vc m vs Tryz.underlying36 hsz (by simp only[Nat.min_def];split <;> omega) hvl
   (fun j v hj=>by rw[Addr.add_lit,hWc];exact hOv _ v (hvs j v hj))
   (fun j hj=>by rw[hWc];exact hN _ (by omega)) (fun j hj=>by rw[hWf];exact hNf _) h1v
 have hGi:¬(G=i):=by omega
 have hGim:¬(G=i+m):=by omega
 have hci:¬(c=i):=by omega
 have hbN:b≠w.heap.size:=by omega
 have hdl:(cs.drop (i * 3)).length=(n-i) * 3:=by rw[List.length_drop,hcl];omega
 have hcpB:∀(W:World),(∀x,W.cell? x=(W1.setCells w.heap.size (i * 3) vs).cell? x)→(∀x,W.frozen? x=(W1.setCells w.heap.size (i * 3) vs).frozen? x)→∀ty dc sc,(Builtin.copy_ #[36,36] ty #[.slice (some ⟨w.heap.size,(i+m) * 3,none⟩) (n+m-(i+m)) dc,.slice (some ⟨b,off+i * 3,none⟩) (n-i) sc]).run Tryz.prog W= .ok (goInt ((n-i:Nat):Int)) (W.setCells w.heap.size ((i+m) * 3) (cs.drop (i * 3))):=fun W hWc hWf ty dc sc=>
  kV 3 W _ _ ty 67 w.heap.size ((i+m) * 3) (n+m-(i+m)) dc ⟨b,off+i * 3,none⟩ (n-i) sc (n-i) (cs.drop (i * 3)) Tryz.underlying36 hsz (by simp only[Nat.min_def];split <;> omega) hdl
   (fun j v hj=>by
    rw[Addr.add_lit,hWc,World.cell?_setCells_out _ _ _ _ _ (fun h _=>absurd h hbN),Nat.add_assoc]
    exact hOb _ v (hcs (i * 3+j) v (by rwa [List.getElem?_drop] at hj)))
   (fun j hj=>by rw[hWc];exact isSome_setCells _ _ _ _ (fun t ht=>hN _ (by omega)) _ (hN _ (by omega)))
   (fun j hj=>by rw[hWf,World.frozen?_setCells];exact hNf _) (fun v hv=>h1c v (List.mem_of_mem_drop hv))
 subst hW1
 have hE1:∀x,((w.alloc (.cells ROW 67)).drew).cell? x=(w.drew.alloc (.cells ROW 67)).cell? x:=fun x=>rfl
 have hE2:∀x,((w.alloc (.cells ROW 67)).drew).frozen? x=(w.drew.alloc (.cells ROW 67)).frozen? x:=fun x=>rfl
 have hF1:∀x,(((w.alloc (.cells ROW 67)).drew.setCells w.heap.size (i * 3) vs).drew).cell? x=((w.drew.alloc (.cells ROW 67)).setCells w.heap.size (i * 3) vs).cell? x:=fun x=>rfl
 have hF2:∀x,(((w.alloc (.cells ROW 67)).drew.setCells w.heap.size (i * 3) vs).drew).frozen? x=((w.drew.alloc (.cells ROW 67)).setCells w.heap.size (i * 3) vs).frozen? x:=fun x=>rfl
 have hw1:IntKind.i64.wrap ((i:Int)+(m:Int))=(i:Int)+(m:Int):=by rw[IntKind.wrap_i64];omega
 have hb1:(0:Int)≤(i:Int)+(m:Int):=by omega
 have hin:i≤n:=by omega
 have htn:((i:Int)+(m:Int)).toNat=i+m:=by omega
 have hb3:(i:Int)≤(n:Int):=by omega
 refine Calls.mono (R:=fun e w'=>e= .returned (.slice (some ⟨w.heap.size,0,none⟩) (n+m) G)∧
   w'=(((w.alloc (.cells ROW 67)).drew.setCells w.heap.size (i * 3) vs).drew).setCells w.heap.size ((i+m) * 3) (cs.drop (i * 3))) ?_ (fun e w' h=>⟨G,ROW,hGn,hRs,hRh,h.1,h.2⟩)
 clear hkk hik hold hRl hRs hRh hz0 hzc hinf
 go_enter Tryz.func183,Tryz.ntmps183
 go_wp2_with (first
  |(at_builtin;refine Lib.wpList_append_run _ rfl _ _ _ _ rfl _ _ rfl rfl _ _ (hrz _) ?_)
  |(at_builtin;refine wpList_copy_runI _ rfl _ _ 36 36 rfl _ _ rfl rfl (hcpA _ hE1 hE2 _ _) ?_)
  |(at_builtin;refine wpList_copy_runI _ rfl _ _ 36 36 rfl _ _ rfl rfl (hcpB _ (fun _=>rfl) (fun _=>rfl) _ _ _) ?_))
 go_region_law_o (refine step_copy_runI rfl _ _ 36 36 rfl (.slice (some ⟨w.heap.size,(i+m) * 3,none⟩) (n+m-(i+m)) (G-(i+m))) (.slice (some ⟨b,off+i * 3,none⟩) (n-i) (c-i)) (by simp[Act.eval,Act.put]) (by simp[Act.eval,Act.put]) (hcpB _ hF1 hF2 3 (G-(i+m)) (c-i)) ?_)
 go_wp2
 go_ret
 exact⟨rfl,rfl⟩
end Go.Proofs.YtlbnmldopjadoaaGreat
