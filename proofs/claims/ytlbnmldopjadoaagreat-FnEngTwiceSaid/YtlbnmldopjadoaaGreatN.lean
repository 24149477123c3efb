/- How data stands for memory. -/
import Derived.Test.YtlbnmldopjadoaaGreatL
namespace Go.Proofs.YtlbnmldopjadoaaGreat
open Go Go.Vm
set_option linter.unusedSimpArgs false
def c_Iu8 (x:Int):List A:=[.lit (.int .u8 x)]
def nI (l:List Int):Vm.Rows:=l.map c_Iu8
theorem ss (l:List Int):nI l=l.map c_Iu8:=rfl
theorem Gy (l:List Int):aA (nI l)=nI l:=by
  induction l with
  |nil=>rfl
  |cons x xs ih=>simp only[nI,nI,List.map_cons,aA] at ih⊢;rw[ih];simp[c_Iu8,c_Iu8,bu,fz]
mutual
def c_GEx:GEx→List A
  |⟨a0,a1,a2,a3⟩=>[iA a0,iA a1,iA a2,.tree (kp a3)]
def kp:List GEx→Vm.Rows
  |[]=>[]
  |x::xs=>c_GEx x::kp xs
end
theorem mU:∀l:List GEx,kp l=l.map c_GEx
  |[]=>rfl
  |x::xs=>by simp only[kp,List.map_cons,mU xs]
theorem vg:∀l:List GEx,aA (kp l)=kp l
  |[]=>by simp[kp,aA]
  |⟨a0,a1,a2,a3⟩::xs=>by simp[kp,c_GEx,aA,bu,fz,vg xs]
def c_GRule (x:GRule):List A:=[.lit (.string x.Name),iA x.Pri,iA x.Mode,iA x.Ex.Kind,iA x.Ex.Sym,iA x.Ex.N,.tree (kp x.Ex.Kids),iA x.Low,iA x.High,iA x.Key,iA x.Add,iA x.Raise]
def nV (l:List GRule):Vm.Rows:=l.map c_GRule
theorem pJ (l:List GRule):nV l=l.map c_GRule:=rfl
theorem DQ (l:List GRule):aA (nV l)=nV l:=by
  induction l with
  |nil=>rfl
  |cons x xs ih=>simp only[nV,nV,List.map_cons,aA] at ih⊢;rw[ih];simp[c_GRule,c_GRule,bu,fz,vg]
def c_Str (x:ByteArray):List A:=[.lit (.string x)]
def tX (l:List ByteArray):Vm.Rows:=l.map c_Str
theorem tn (l:List ByteArray):tX l=l.map c_Str:=rfl
theorem BB (l:List ByteArray):aA (tX l)=tX l:=by
  induction l with
  |nil=>rfl
  |cons x xs ih=>simp only[tX,tX,List.map_cons,aA] at ih⊢;rw[ih];simp[c_Str,c_Str,bu,fz]
def c_Int (x:Int):List A:=[iA x]
def gf (l:List Int):Vm.Rows:=l.map c_Int
theorem sg (l:List Int):gf l=l.map c_Int:=rfl
theorem ln (l:List Int):aA (gf l)=gf l:=by
  induction l with
  |nil=>rfl
  |cons x xs ih=>simp only[gf,gf,List.map_cons,aA] at ih⊢;rw[ih];simp[c_Int,c_Int,bu,fz]
theorem Dt (l:List Int):jM (gf l)=true:=by
  induction l with
  |nil=>rfl
  |cons x xs ih=>simp only[gf,List.map_cons,jM] at ih⊢;rw[ih];simp[c_Int,lU,ownd]
mutual
def oy:GEx→List A
  |⟨a0,a1,a2,a3⟩=>[iA a0,iA a1,iA a2,.inl 4 (ni a3)]
def ni:List GEx→Vm.Rows
  |[]=>[]
  |x::xs=>oy x::ni xs
end
theorem rh:∀l:List GEx,ni l=l.map oy
  |[]=>rfl
  |x::xs=>by simp only[ni,List.map_cons,rh xs]
mutual
theorem FQ:∀e:GEx,bu (oy e)=c_GEx e
  |⟨a0,a1,a2,a3⟩=>by simp[oy,c_GEx,bu,fz,tb]
theorem tb:∀l:List GEx,aA (ni l)=kp l
  |[]=>by simp[ni,kp,aA]
  |x::xs=>by simp[ni,kp,aA,FQ x,tb xs]
end
def c_GOcc (x:GOcc):List A:=[iA x.From,iA x.To,.tree (gf x.Ids)]
def dl (l:List GOcc):Vm.Rows:=l.map c_GOcc
theorem fK (l:List GOcc):dl l=l.map c_GOcc:=rfl
theorem uD (l:List GOcc):∀r∈dl l,r.length=3:=by rw[fK];intro r hr;obtain⟨e,_,rfl⟩:=List.mem_map.1 hr;simp[c_GOcc]
theorem lz (l:List GOcc):aA (dl l)=dl l:=by
  induction l with
  |nil=>rfl
  |cons x xs ih=>simp only[dl,dl,List.map_cons,aA] at ih⊢;rw[ih];simp[c_GOcc,c_GOcc,bu,fz,ln]
def c_GNode (x:GNode):List A:=[iA x.Kind,iA x.Sym,iA x.N,.tree (gf x.Kids),.tree (dl x.Pair.Left),.tree (dl x.Pair.Right),.tree (dl x.Span.Left),.tree (dl x.Span.Mid),.tree (dl x.Due),iA x.Many]
def jq (l:List GNode):Vm.Rows:=l.map c_GNode
theorem mG (l:List GNode):jq l=l.map c_GNode:=rfl
theorem rv (l:List GNode):aA (jq l)=jq l:=by
  induction l with
  |nil=>rfl
  |cons x xs ih=>simp only[jq,jq,List.map_cons,aA] at ih⊢;rw[ih];simp[c_GNode,c_GNode,bu,fz,lz,ln]
def c_GNodeS (x:GNode):List A:=[iA x.Kind,iA x.Sym,iA x.N,.inl 1 (gf x.Kids),.inl 3 (dl x.Pair.Left),.inl 3 (dl x.Pair.Right),.inl 3 (dl x.Span.Left),.inl 3 (dl x.Span.Mid),.inl 3 (dl x.Due),iA x.Many]
def oD (l:List GNode):Vm.Rows:=l.map c_GNodeS
theorem su (l:List GNode):oD l=l.map c_GNodeS:=rfl
theorem uw (l:List GNode):aA (oD l)=jq l:=by
  induction l with
  |nil=>rfl
  |cons x xs ih=>simp only[oD,jq,List.map_cons,aA] at ih⊢;rw[ih];simp[c_GNodeS,c_GNode,bu,fz,lz,ln]
def c_GGraphS2 (x:GGraph):List A:=[iA x.Mode,.inl 10 (oD x.Nodes),iA x.Seen,iA x.Now,.lit (.bool x.Full)]
def nP (l:List GGraph):Vm.Rows:=l.map c_GGraphS2
theorem qa (l:List GGraph):nP l=l.map c_GGraphS2:=rfl
def c_GGraph (x:GGraph):List A:=[iA x.Mode,.tree (jq x.Nodes),iA x.Seen,iA x.Now,.lit (.bool x.Full)]
def il (l:List GGraph):Vm.Rows:=l.map c_GGraph
theorem jU (l:List GGraph):il l=l.map c_GGraph:=rfl
theorem Cx (l:List GGraph):aA (il l)=il l:=by
  induction l with
  |nil=>rfl
  |cons x xs ih=>simp only[il,il,List.map_cons,aA] at ih⊢;rw[ih];simp[c_GGraph,c_GGraph,bu,fz,rv]
theorem zY (l:List GGraph):aA (nP l)=il l:=by
  induction l with
  |nil=>rfl
  |cons x xs ih=>simp only[nP,il,List.map_cons,aA] at ih⊢;rw[ih];simp[c_GGraphS2,c_GGraph,bu,fz,uw]
def c_GEv (x:GEv):List A:=[iA x.Sym,iA x.At,iA x.Val]
def tL (l:List GEv):Vm.Rows:=l.map c_GEv
theorem s6 (l:List GEv):tL l=l.map c_GEv:=rfl
theorem vI (l:List GEv):aA (tL l)=tL l:=by
  induction l with
  |nil=>rfl
  |cons x xs ih=>simp only[tL,tL,List.map_cons,aA] at ih⊢;rw[ih];simp[c_GEv,c_GEv,bu,fz]
def c_GFire (x:GFire):List A:=[iA x.Rule,iA x.Occ.From,iA x.Occ.To,.tree (gf x.Occ.Ids)]
def nY (l:List GFire):Vm.Rows:=l.map c_GFire
theorem pW (l:List GFire):nY l=l.map c_GFire:=rfl
theorem Ej (l:List GFire):aA (nY l)=nY l:=by
  induction l with
  |nil=>rfl
  |cons x xs ih=>simp only[nY,nY,List.map_cons,aA] at ih⊢;rw[ih];simp[c_GFire,c_GFire,bu,fz,ln]
def c_GOccO (x:GOcc):List A:=[iA x.From,iA x.To,.inl 1 (gf x.Ids)]
def tJ (l:List GOcc):Vm.Rows:=l.map c_GOccO
theorem uv (l:List GOcc):tJ l=l.map c_GOccO:=rfl
theorem DS (l:List GOcc):aA (tJ l)=dl l:=by
  induction l with
  |nil=>rfl
  |cons x xs ih=>simp only[tJ,dl,List.map_cons,aA] at ih⊢;rw[ih];simp[c_GOccO,c_GOcc,bu,fz,ln]
def c_LGOcc (x:List GOcc):List A:=[.tree (dl x)]
def nZ (l:List (List GOcc)):Vm.Rows:=l.map c_LGOcc
theorem pU (l:List (List GOcc)):nZ l=l.map c_LGOcc:=rfl
theorem xi (l:List (List GOcc)):aA (nZ l)=nZ l:=by
  induction l with
  |nil=>rfl
  |cons x xs ih=>simp only[nZ,nZ,List.map_cons,aA] at ih⊢;rw[ih];simp[c_LGOcc,c_LGOcc,bu,fz,lz]
def c_Bool (x:Bool):List A:=[.lit (.bool x)]
def mR (l:List Bool):Vm.Rows:=l.map c_Bool
theorem qO (l:List Bool):mR l=l.map c_Bool:=rfl
theorem EL (l:List Bool):aA (mR l)=mR l:=by
  induction l with
  |nil=>rfl
  |cons x xs ih=>simp only[mR,mR,List.map_cons,aA] at ih⊢;rw[ih];simp[c_Bool,c_Bool,bu,fz]
theorem pV (l:List Bool):jM (mR l)=true:=by
  induction l with
  |nil=>rfl
  |cons x xs ih=>simp only[mR,List.map_cons,jM] at ih⊢;rw[ih];simp[c_Bool,lU,ownd]
def c_GGraphS (x:GGraph):List A:=[iA x.Mode,.inl 10 (jq x.Nodes),iA x.Seen,iA x.Now,.lit (.bool x.Full)]
def pq (l:List GGraph):Vm.Rows:=l.map c_GGraphS
theorem rE (l:List GGraph):pq l=l.map c_GGraphS:=rfl
theorem AB (l:List GGraph):aA (pq l)=il l:=by
  induction l with
  |nil=>rfl
  |cons x xs ih=>simp only[pq,il,List.map_cons,aA] at ih⊢;rw[ih];simp[c_GGraphS,c_GGraph,bu,fz,rv]
def c_LInt (x:List Int):List A:=[.tree (gf x)]
def qf (l:List (List Int)):Vm.Rows:=l.map c_LInt
theorem rk (l:List (List Int)):qf l=l.map c_LInt:=rfl
theorem zi (l:List (List Int)):aA (qf l)=qf l:=by
  induction l with
  |nil=>rfl
  |cons x xs ih=>simp only[qf,qf,List.map_cons,aA] at ih⊢;rw[ih];simp[c_LInt,c_LInt,bu,fz,ln]
@[simp] theorem r_Iu8_fzm (l:List Int):aA (l.map c_Iu8)=l.map c_Iu8:=by rw[←ss,Gy,ss]
@[simp] theorem r_GEx_fzm (l:List GEx):aA (l.map c_GEx)=l.map c_GEx:=by rw[←mU,vg,mU]
@[simp] theorem r_GRule_fzm (l:List GRule):aA (l.map c_GRule)=l.map c_GRule:=by rw[←pJ,DQ,pJ]
@[simp] theorem r_Str_fzm (l:List ByteArray):aA (l.map c_Str)=l.map c_Str:=by rw[←tn,BB,tn]
@[simp] theorem r_Int_fzm (l:List Int):aA (l.map c_Int)=l.map c_Int:=by rw[←sg,ln,sg]
@[simp] theorem r_GExO_fzm (l:List GEx):aA (l.map oy)=l.map c_GEx:=by rw[←rh,tb,mU]
@[simp] theorem r_GOcc_fzm (l:List GOcc):aA (l.map c_GOcc)=l.map c_GOcc:=by rw[←fK,lz,fK]
@[simp] theorem r_GNode_fzm (l:List GNode):aA (l.map c_GNode)=l.map c_GNode:=by rw[←mG,rv,mG]
@[simp] theorem IX (l:List GNode):aA (l.map c_GNodeS)=l.map c_GNode:=by rw[←su,uw,mG]
@[simp] theorem HC (l:List GGraph):aA (l.map c_GGraphS2)=l.map c_GGraph:=by rw[←qa,zY,jU]
@[simp] theorem IO (l:List GGraph):aA (l.map c_GGraph)=l.map c_GGraph:=by rw[←jU,Cx,jU]
@[simp] theorem r_GEv_fzm (l:List GEv):aA (l.map c_GEv)=l.map c_GEv:=by rw[←s6,vI,s6]
@[simp] theorem r_GFire_fzm (l:List GFire):aA (l.map c_GFire)=l.map c_GFire:=by rw[←pW,Ej,pW]
@[simp] theorem r_GOccO_fzm (l:List GOcc):aA (l.map c_GOccO)=l.map c_GOcc:=by rw[←uv,DS,fK]
@[simp] theorem r_LGOcc_fzm (l:List (List GOcc)):aA (l.map c_LGOcc)=l.map c_LGOcc:=by rw[←pU,xi,pU]
@[simp] theorem r_Bool_fzm (l:List Bool):aA (l.map c_Bool)=l.map c_Bool:=by rw[←qO,EL,qO]
@[simp] theorem Ib (l:List GGraph):aA (l.map c_GGraphS)=l.map c_GGraph:=by rw[←rE,AB,jU]
@[simp] theorem r_LInt_fzm (l:List (List Int)):aA (l.map c_LInt)=l.map c_LInt:=by rw[←rk,zi,rk]
attribute [simp] c_Iu8 ss c_GEx mU c_GRule pJ c_Str tn c_Int sg oy rh c_GOcc fK c_GNode mG c_GNodeS su c_GGraphS2 qa c_GGraph jU c_GEv s6 c_GFire pW c_GOccO uv c_LGOcc pU c_Bool qO c_GGraphS rE c_LInt rk
/-- the encoders, iL names -/
inductive EQ:(List Int→Vm.Rows)→(List GEx→Vm.Rows)→(List GRule→Vm.Rows)→(List ByteArray→Vm.Rows)→(List Int→Vm.Rows)→(List GEx→Vm.Rows)→(List GOcc→Vm.Rows)→(List GNode→Vm.Rows)→(List GNode→Vm.Rows)→(List GGraph→Vm.Rows)→(List GGraph→Vm.Rows)→(List GEv→Vm.Rows)→(List GFire→Vm.Rows)→(List GOcc→Vm.Rows)→(List (List GOcc)→Vm.Rows)→(List Bool→Vm.Rows)→(List GGraph→Vm.Rows)→(List (List Int)→Vm.Rows)→Prop where
  |mk:EQ nI kp nV tX gf ni dl jq oD nP il tL nY tJ nZ mR pq qf
abbrev wz (x:Int):List A:=[.lit (.int .u8 x)]
abbrev qn (qGEx:Vm.RW GEx) (x:GRule):List A:=[.lit (.string x.Name),iA x.Pri,iA x.Mode,iA x.Ex.Kind,iA x.Ex.Sym,iA x.Ex.N,.tree (qGEx x.Ex.Kids),iA x.Low,iA x.High,iA x.Key,iA x.Add,iA x.Raise]
abbrev wB (x:ByteArray):List A:=[.lit (.string x)]
abbrev xg (x:Int):List A:=[iA x]
abbrev rW (qInt:Vm.RW Int) (x:GOcc):List A:=[iA x.From,iA x.To,.tree (qInt x.Ids)]
abbrev aM (qInt:Vm.RW Int) (qGOcc:Vm.RW GOcc) (x:GNode):List A:=[iA x.Kind,iA x.Sym,iA x.N,.tree (qInt x.Kids),.tree (qGOcc x.Pair.Left),.tree (qGOcc x.Pair.Right),.tree (qGOcc x.Span.Left),.tree (qGOcc x.Span.Mid),.tree (qGOcc x.Due),iA x.Many]
abbrev mb (qInt:Vm.RW Int) (qGOcc:Vm.RW GOcc) (x:GNode):List A:=[iA x.Kind,iA x.Sym,iA x.N,.inl 1 (qInt x.Kids),.inl 3 (qGOcc x.Pair.Left),.inl 3 (qGOcc x.Pair.Right),.inl 3 (qGOcc x.Span.Left),.inl 3 (qGOcc x.Span.Mid),.inl 3 (qGOcc x.Due),iA x.Many]
abbrev kj (qGNodeS:Vm.RW GNode) (x:GGraph):List A:=[iA x.Mode,.inl 10 (qGNodeS x.Nodes),iA x.Seen,iA x.Now,.lit (.bool x.Full)]
abbrev oN (qGNode:Vm.RW GNode) (x:GGraph):List A:=[iA x.Mode,.tree (qGNode x.Nodes),iA x.Seen,iA x.Now,.lit (.bool x.Full)]
abbrev w8 (x:GEv):List A:=[iA x.Sym,iA x.At,iA x.Val]
abbrev qD (qInt:Vm.RW Int) (x:GFire):List A:=[iA x.Rule,iA x.Occ.From,iA x.Occ.To,.tree (qInt x.Occ.Ids)]
abbrev qx (qInt:Vm.RW Int) (x:GOcc):List A:=[iA x.From,iA x.To,.inl 1 (qInt x.Ids)]
abbrev qt (qGOcc:Vm.RW GOcc) (x:List GOcc):List A:=[.tree (qGOcc x)]
abbrev sk (x:Bool):List A:=[.lit (.bool x)]
abbrev mO (qGNode:Vm.RW GNode) (x:GGraph):List A:=[iA x.Mode,.inl 10 (qGNode x.Nodes),iA x.Seen,iA x.Now,.lit (.bool x.Full)]
abbrev tw (qInt:Vm.RW Int) (x:List Int):List A:=[.tree (qInt x)]
abbrev wu (qGEx:Vm.RW GEx) (x:GEx):List A:=[iA x.Kind,iA x.Sym,iA x.N,.tree (qGEx x.Kids)]
abbrev tt (qGExO:Vm.RW GEx) (x:GEx):List A:=[iA x.Kind,iA x.Sym,iA x.N,.inl 4 (qGExO x.Kids)]
set_option maxRecDepth 100000
/-- a closure that is handed on -/
theorem Hg {g:Prop} (k:g:=by first|exact hg0|exact hg1|exact hg2|exact fun h=>c1 hQ h|exact fun h=>c2 hQ h|exact fun h=>c3 hQ h|exact fun h=>c4 hQ h|exact fun h=>c5 hQ h|exact fun h=>c6 hQ h|exact fun h=>c7 hQ h|exact fun h=>c8 hQ h|exact fun h=>c9 hQ h|exact fun h=>d1 h|exact fun h=>d2 h|exact fun h=>d3 h|fail):g:=k
/-- a round's end -/
theorem Jm {g:Prop} (k:g:=by
  first
  |exact hD3 _ _ hh fun⟨t0,t1,t2,t3,t4,t5,t6,t7,t8,t9,t10,t11⟩ e=>kA
  |exact hD3 _ _ hh fun⟨t0,t1,t2,t3,t4,t5,t6,t7,t8,t9,t10⟩ e=>kA
  |exact hD3 _ _ hh fun⟨t0,t1,t2,t3,t4,t5,t6,t7,t8,t9⟩ e=>kA
  |exact hD3 _ _ hh fun⟨t0,t1,t2,t3,t4,t5,t6,t7,t8⟩ e=>kA
  |exact hD3 _ _ hh fun⟨t0,t1,t2,t3,t4,t5,t6,t7⟩ e=>kA
  |exact hD3 _ _ hh fun⟨t0,t1,t2,t3,t4,t5,t6⟩ e=>kA
  |exact hD3 _ _ hh fun⟨t0,t1,t2,t3,t4,t5⟩ e=>kA
  |exact hD3 _ _ hh fun⟨t0,t1,t2,t3,t4⟩ e=>kA
  |exact hD3 _ _ hh fun⟨t0,t1,t2,t3⟩ e=>kA
  |exact hD3 _ _ hh fun⟨t0,t1,t2⟩ e=>kA
  |exact hD3 _ _ hh fun⟨t0,t1⟩ e=>kA
  |exact hD3 _ _ hh fun t0 e=>kA
  |exact hD3 _ _ hh fun _ e=>kA
  |exact hD2 _ _ hh fun⟨t0,t1,t2,t3,t4,t5,t6,t7,t8,t9,t10,t11⟩ e=>kA
  |exact hD2 _ _ hh fun⟨t0,t1,t2,t3,t4,t5,t6,t7,t8,t9,t10⟩ e=>kA
  |exact hD2 _ _ hh fun⟨t0,t1,t2,t3,t4,t5,t6,t7,t8,t9⟩ e=>kA
  |exact hD2 _ _ hh fun⟨t0,t1,t2,t3,t4,t5,t6,t7,t8⟩ e=>kA
  |exact hD2 _ _ hh fun⟨t0,t1,t2,t3,t4,t5,t6,t7⟩ e=>kA
  |exact hD2 _ _ hh fun⟨t0,t1,t2,t3,t4,t5,t6⟩ e=>kA
  |exact hD2 _ _ hh fun⟨t0,t1,t2,t3,t4,t5⟩ e=>kA
  |exact hD2 _ _ hh fun⟨t0,t1,t2,t3,t4⟩ e=>kA
  |exact hD2 _ _ hh fun⟨t0,t1,t2,t3⟩ e=>kA
  |exact hD2 _ _ hh fun⟨t0,t1,t2⟩ e=>kA
  |exact hD2 _ _ hh fun⟨t0,t1⟩ e=>kA
  |exact hD2 _ _ hh fun t0 e=>kA
  |exact hD2 _ _ hh fun _ e=>kA
  |exact hD1 _ _ hh fun⟨t0,t1,t2,t3,t4,t5,t6,t7,t8,t9,t10,t11⟩ e=>kA
  |exact hD1 _ _ hh fun⟨t0,t1,t2,t3,t4,t5,t6,t7,t8,t9,t10⟩ e=>kA
  |exact hD1 _ _ hh fun⟨t0,t1,t2,t3,t4,t5,t6,t7,t8,t9⟩ e=>kA
  |exact hD1 _ _ hh fun⟨t0,t1,t2,t3,t4,t5,t6,t7,t8⟩ e=>kA
  |exact hD1 _ _ hh fun⟨t0,t1,t2,t3,t4,t5,t6,t7⟩ e=>kA
  |exact hD1 _ _ hh fun⟨t0,t1,t2,t3,t4,t5,t6⟩ e=>kA
  |exact hD1 _ _ hh fun⟨t0,t1,t2,t3,t4,t5⟩ e=>kA
  |exact hD1 _ _ hh fun⟨t0,t1,t2,t3,t4⟩ e=>kA
  |exact hD1 _ _ hh fun⟨t0,t1,t2,t3⟩ e=>kA
  |exact hD1 _ _ hh fun⟨t0,t1,t2⟩ e=>kA
  |exact hD1 _ _ hh fun⟨t0,t1⟩ e=>kA
  |exact hD1 _ _ hh fun t0 e=>kA
  |exact hD1 _ _ hh fun _ e=>kA
  |exact hN3 (_,_,_,_,_,_,_,_,_,_,_,_) _ hh fun⟨t0,t1,t2,t3,t4,t5,t6,t7,t8,t9,t10,t11⟩ e=>kA
  |exact hN3 (_,_,_,_,_,_,_,_,_,_,_) _ hh fun⟨t0,t1,t2,t3,t4,t5,t6,t7,t8,t9,t10⟩ e=>kA
  |exact hN3 (_,_,_,_,_,_,_,_,_,_) _ hh fun⟨t0,t1,t2,t3,t4,t5,t6,t7,t8,t9⟩ e=>kA
  |exact hN3 (_,_,_,_,_,_,_,_,_) _ hh fun⟨t0,t1,t2,t3,t4,t5,t6,t7,t8⟩ e=>kA
  |exact hN3 (_,_,_,_,_,_,_,_) _ hh fun⟨t0,t1,t2,t3,t4,t5,t6,t7⟩ e=>kA
  |exact hN3 (_,_,_,_,_,_,_) _ hh fun⟨t0,t1,t2,t3,t4,t5,t6⟩ e=>kA
  |exact hN3 (_,_,_,_,_,_) _ hh fun⟨t0,t1,t2,t3,t4,t5⟩ e=>kA
  |exact hN3 (_,_,_,_,_) _ hh fun⟨t0,t1,t2,t3,t4⟩ e=>kA
  |exact hN3 (_,_,_,_) _ hh fun⟨t0,t1,t2,t3⟩ e=>kA
  |exact hN3 (_,_,_) _ hh fun⟨t0,t1,t2⟩ e=>kA
  |exact hN3 (_,_) _ hh fun⟨t0,t1⟩ e=>kA
  |exact hN3 _ _ hh fun t0 e=>kA
  |exact hN3 () _ hh fun _ e=>kA
  |exact hN2 (_,_,_,_,_,_,_,_,_,_,_,_) _ hh fun⟨t0,t1,t2,t3,t4,t5,t6,t7,t8,t9,t10,t11⟩ e=>kA
  |exact hN2 (_,_,_,_,_,_,_,_,_,_,_) _ hh fun⟨t0,t1,t2,t3,t4,t5,t6,t7,t8,t9,t10⟩ e=>kA
  |exact hN2 (_,_,_,_,_,_,_,_,_,_) _ hh fun⟨t0,t1,t2,t3,t4,t5,t6,t7,t8,t9⟩ e=>kA
  |exact hN2 (_,_,_,_,_,_,_,_,_) _ hh fun⟨t0,t1,t2,t3,t4,t5,t6,t7,t8⟩ e=>kA
  |exact hN2 (_,_,_,_,_,_,_,_) _ hh fun⟨t0,t1,t2,t3,t4,t5,t6,t7⟩ e=>kA
  |exact hN2 (_,_,_,_,_,_,_) _ hh fun⟨t0,t1,t2,t3,t4,t5,t6⟩ e=>kA
  |exact hN2 (_,_,_,_,_,_) _ hh fun⟨t0,t1,t2,t3,t4,t5⟩ e=>kA
  |exact hN2 (_,_,_,_,_) _ hh fun⟨t0,t1,t2,t3,t4⟩ e=>kA
  |exact hN2 (_,_,_,_) _ hh fun⟨t0,t1,t2,t3⟩ e=>kA
  |exact hN2 (_,_,_) _ hh fun⟨t0,t1,t2⟩ e=>kA
  |exact hN2 (_,_) _ hh fun⟨t0,t1⟩ e=>kA
  |exact hN2 _ _ hh fun t0 e=>kA
  |exact hN2 () _ hh fun _ e=>kA
  |exact hN1 (_,_,_,_,_,_,_,_,_,_,_,_) _ hh fun⟨t0,t1,t2,t3,t4,t5,t6,t7,t8,t9,t10,t11⟩ e=>kA
  |exact hN1 (_,_,_,_,_,_,_,_,_,_,_) _ hh fun⟨t0,t1,t2,t3,t4,t5,t6,t7,t8,t9,t10⟩ e=>kA
  |exact hN1 (_,_,_,_,_,_,_,_,_,_) _ hh fun⟨t0,t1,t2,t3,t4,t5,t6,t7,t8,t9⟩ e=>kA
  |exact hN1 (_,_,_,_,_,_,_,_,_) _ hh fun⟨t0,t1,t2,t3,t4,t5,t6,t7,t8⟩ e=>kA
  |exact hN1 (_,_,_,_,_,_,_,_) _ hh fun⟨t0,t1,t2,t3,t4,t5,t6,t7⟩ e=>kA
  |exact hN1 (_,_,_,_,_,_,_) _ hh fun⟨t0,t1,t2,t3,t4,t5,t6⟩ e=>kA
  |exact hN1 (_,_,_,_,_,_) _ hh fun⟨t0,t1,t2,t3,t4,t5⟩ e=>kA
  |exact hN1 (_,_,_,_,_) _ hh fun⟨t0,t1,t2,t3,t4⟩ e=>kA
  |exact hN1 (_,_,_,_) _ hh fun⟨t0,t1,t2,t3⟩ e=>kA
  |exact hN1 (_,_,_) _ hh fun⟨t0,t1,t2⟩ e=>kA
  |exact hN1 (_,_) _ hh fun⟨t0,t1⟩ e=>kA
  |exact hN1 _ _ hh fun t0 e=>kA
  |exact hN1 () _ hh fun _ e=>kA
  |fail):g:=k
/-- what is left of a function, its steps and those of the plain function side by side -/
theorem D {g:Prop} (k:g:=by
  repeat' first
    |(have _y:=f;(first|(have _z:=u1;(first|(have _z:=u2;(first|(have _z:=u3;(first|(have _z:=u4;(first|(have _z:=u5;(first|(have _z:=u6;(first|(have _z:=u7;(have u8:=f))|have u7:=f))|have u6:=f))|have u5:=f))|have u4:=f))|have u3:=f))|have u2:=f))|have u1:=f);clear f)
    |(have _y:=h;(first|(have _z:=w1;(first|(have _z:=w2;(first|(have _z:=w3;(have w4:=h))|have w3:=h))|have w2:=h))|have w1:=h);clear h)
    |(revert hh;(with_reducible refine rqI ?_);intro _ hh)
    |with_reducible exact nnI hh
    |(have _g:=(by with_reducible exact iteG hh);clear _g;first|((first|rw[u1]|rw[u2]|rw[u3]|rw[u4]|rw[u5]|rw[u6]|rw[u7]|rw[u8]|fail);cbv)|((revert hh;refine bq ?_ ?_ <;> (intro f hh;(try rw[f]);cbv)))|((revert hh;refine bqm ?_ ?_ <;> (intro f hh;(try rw[f]);cbv)))|((revert hh;refine bnm ?_ ?_ <;> (intro f hh;(try rw[f]);cbv)))|((refine mmT (by with_reducible assumption) ?_;cbv))|((refine mmF (by with_reducible assumption) ?_;cbv))|((revert hh;refine bn ?_ ?_ <;> (intro f hh;(try rw[f]);cbv)))|(refine⟨Zc,?_⟩)|fail)
    |(have _g:=(by with_reducible exact bindG hh);clear _g;first|(revert hh;(first|refine cqI hF (fun y h=>c1 hQ h) ?_|refine cqI hF (fun y h=>c2 hQ h) ?_|refine cqI hF (fun y h=>c3 hQ h) ?_|refine cqI hF (fun y h=>c4 hQ h) ?_|refine cqI hF (fun y h=>c5 hQ h) ?_|refine cqI hF (fun y h=>c6 hQ h) ?_|refine cqI hF (fun y h=>c7 hQ h) ?_|refine cqI hF (fun y h=>c8 hQ h) ?_|refine cqI hF (fun y h=>c9 hQ h) ?_|refine cqI hF (fun y h=>d1 h) ?_|refine cqI hF (fun y h=>d2 h) ?_|refine cqI hF (fun y h=>d3 h) ?_|refine cqI hF (fun y h=>hg0 h) ?_|refine cqI hF (fun y h=>hg1 h) ?_|refine cqI hF (fun y h=>hg2 h) ?_|refine cqI hF (fun y h=>hg3 h) ?_|refine cqI hF (fun y h=>e1 hQ Hg h) ?_|refine cqI hF (fun y h=>e2 hQ Hg h) ?_|refine cqI hF (fun y h=>e3 hQ Hg h) ?_|refine cqI hF (fun y h=>e4 hQ Hg h) ?_|fail);intro y _ hh;(first|obtain⟨_,_⟩:=(y:(List GOcc)×(List GOcc))|obtain⟨_,_,_⟩:=(y:(List GOcc)×(List GOcc)×(List GOcc))|obtain⟨_,⟨_,_,_,_,_⟩⟩:=(y:(List GOcc)×GGraph)|obtain⟨_,⟨_,_,_,_,_⟩,⟨_,_,_⟩⟩:=(y:(List GOcc)×GGraph×GEv)|obtain⟨_,⟨_,_⟩⟩:=(y:(List GRule)×Gl14Rd)|obtain⟨_,_,_⟩:=(y:tW)|obtain⟨_,_,_,_,_⟩:=(y:GEng)|obtain⟨⟨_,_,_,_,_⟩,⟨_,_⟩⟩:=(y:GEng×Gl14Rd)|obtain⟨⟨_,_,_,_,_⟩,_,_⟩:=(y:GEng×Int×(List GFire))|obtain⟨⟨_,_,_,_,_⟩,_,_,_⟩:=(y:GEng×Int×Int×Int)|obtain⟨_,_,_⟩:=(y:GEv)|obtain⟨_,_,_,_⟩:=(y:GEx)|obtain⟨⟨_,_,_,_⟩,⟨_,_⟩⟩:=(y:GEx×Gl14Rd)|obtain⟨_,⟨_,_,_⟩⟩:=(y:GFire)|obtain⟨_,_,_,_,_⟩:=(y:GGraph)|obtain⟨⟨_,_,_,_,_⟩,_,_⟩:=(y:GGraph×(List ByteArray)×Int)|obtain⟨⟨_,_,_,_,_⟩,_⟩:=(y:GGraph×(List GOcc))|obtain⟨_,_,_,_,⟨_,_⟩,⟨_,_⟩,_,_⟩:=(y:GNode)|obtain⟨⟨_,_,_,_,⟨_,_⟩,⟨_,_⟩,_,_⟩,_⟩:=(y:GNode×(List GOcc))|obtain⟨_,_,_⟩:=(y:GOcc)|obtain⟨⟨_,_,_⟩,⟨_,_⟩⟩:=(y:GOcc×Gl14Rd)|obtain⟨_,_⟩:=(y:GPair)|obtain⟨⟨_,_⟩,_⟩:=(y:GPair×(List GOcc))|obtain⟨_,_,_,⟨_,_,_,_⟩,_,_,_,_,_⟩:=(y:GRule)|obtain⟨⟨_,_,_,⟨_,_,_,_⟩,_,_,_,_,_⟩,⟨_,_⟩⟩:=(y:GRule×Gl14Rd)|obtain⟨_,_⟩:=(y:GSpan)|obtain⟨⟨_,_⟩,_⟩:=(y:GSpan×(List GOcc))|obtain⟨_,_⟩:=(y:Gl14Rd)|obtain⟨⟨_,_,_,_,_⟩,_,_,_⟩:=(y:Gl9Call)|obtain⟨_,_⟩:=(y:Graiser)|obtain⟨_,_⟩:=(y:Int×Bool)|obtain⟨_,_,⟨_,_,_,_,_⟩⟩:=(y:Int×Bool×GGraph)|obtain⟨_,⟨_,_,_,_,_⟩,⟨_,_⟩⟩:=(y:Int×GEng×Graiser)|obtain⟨_,⟨_,_⟩⟩:=(y:Int×Gl14Rd)|obtain⟨_,_⟩:=(y:Int×Int)|skip);(try dsimp only at hh);cbv)|(revert hh;(with_reducible refine bdI ?_);intro y1 h hh;have _t:Int:=y1;clear _t;(try dsimp only at hh);(first|refine⟨[.lit (.int .u8 y1)],Gb h,?_⟩|refine⟨[.lit (.int .u8 y1)],Zc,Gb h,?_⟩|refine⟨[iA y1],Gb h,?_⟩|refine⟨[iA y1],Zc,Gb h,?_⟩|fail);cbv)|(revert hh;(with_reducible refine bdI ?_);intro y h hh;obtain⟨y1,y2,y3,⟨y4,y5,y6,y7⟩,y8,y9,y10,y11,y12⟩:=(y:GRule);(try dsimp only at hh);(first|refine⟨[sA (y1),iA y2,iA y3,iA y4,iA y5,iA y6,tA (qGEx y7),iA y8,iA y9,iA y10,iA y11,iA y12],Gb h,?_⟩|refine⟨[sA (y1),iA y2,iA y3,iA y4,iA y5,iA y6,tA (qGEx y7),iA y8,iA y9,iA y10,iA y11,iA y12],Zc,Gb h,?_⟩|fail);cbv)|(revert hh;(with_reducible refine bdI ?_);intro y1 h hh;have _t:ByteArray:=y1;clear _t;(try dsimp only at hh);(first|refine⟨[sA (y1)],Gb h,?_⟩|refine⟨[sA (y1)],Zc,Gb h,?_⟩|fail);cbv)|(revert hh;(with_reducible refine bdI ?_);intro y h hh;obtain⟨y1,y2,y3⟩:=(y:GOcc);(try dsimp only at hh);(first|refine⟨[iA y1,iA y2,tA (qInt y3)],Gb h,?_⟩|refine⟨[iA y1,iA y2,tA (qInt y3)],Zc,Gb h,?_⟩|refine⟨[iA y1,iA y2,oA 1 (qInt y3)],Gb h,?_⟩|refine⟨[iA y1,iA y2,oA 1 (qInt y3)],Zc,Gb h,?_⟩|fail);cbv)|(revert hh;(with_reducible refine bdI ?_);intro y h hh;obtain⟨y1,y2,y3,y4,⟨y5,y6⟩,⟨y7,y8⟩,y9,y10⟩:=(y:GNode);(try dsimp only at hh);(first|refine⟨[iA y1,iA y2,iA y3,tA (qInt y4),tA (qGOcc y5),tA (qGOcc y6),tA (qGOcc y7),tA (qGOcc y8),tA (qGOcc y9),iA y10],Gb h,?_⟩|refine⟨[iA y1,iA y2,iA y3,tA (qInt y4),tA (qGOcc y5),tA (qGOcc y6),tA (qGOcc y7),tA (qGOcc y8),tA (qGOcc y9),iA y10],Zc,Gb h,?_⟩|refine⟨[iA y1,iA y2,iA y3,oA 1 (qInt y4),oA 3 (qGOcc y5),oA 3 (qGOcc y6),oA 3 (qGOcc y7),oA 3 (qGOcc y8),oA 3 (qGOcc y9),iA y10],Gb h,?_⟩|refine⟨[iA y1,iA y2,iA y3,oA 1 (qInt y4),oA 3 (qGOcc y5),oA 3 (qGOcc y6),oA 3 (qGOcc y7),oA 3 (qGOcc y8),oA 3 (qGOcc y9),iA y10],Zc,Gb h,?_⟩|fail);cbv)|(revert hh;(with_reducible refine bdI ?_);intro y h hh;obtain⟨y1,y2,y3,y4,y5⟩:=(y:GGraph);(try dsimp only at hh);(first|refine⟨[iA y1,oA 10 (qGNodeS y2),iA y3,iA y4,bA (y5)],Gb h,?_⟩|refine⟨[iA y1,oA 10 (qGNodeS y2),iA y3,iA y4,bA (y5)],Zc,Gb h,?_⟩|refine⟨[iA y1,tA (qGNode y2),iA y3,iA y4,bA (y5)],Gb h,?_⟩|refine⟨[iA y1,tA (qGNode y2),iA y3,iA y4,bA (y5)],Zc,Gb h,?_⟩|refine⟨[iA y1,oA 10 (qGNode y2),iA y3,iA y4,bA (y5)],Gb h,?_⟩|refine⟨[iA y1,oA 10 (qGNode y2),iA y3,iA y4,bA (y5)],Zc,Gb h,?_⟩|fail);cbv)|(revert hh;(with_reducible refine bdI ?_);intro y h hh;obtain⟨y1,y2,y3⟩:=(y:GEv);(try dsimp only at hh);(first|refine⟨[iA y1,iA y2,iA y3],Gb h,?_⟩|refine⟨[iA y1,iA y2,iA y3],Zc,Gb h,?_⟩|fail);cbv)|(revert hh;(with_reducible refine bdI ?_);intro y h hh;obtain⟨y1,⟨y2,y3,y4⟩⟩:=(y:GFire);(try dsimp only at hh);(first|refine⟨[iA y1,iA y2,iA y3,tA (qInt y4)],Gb h,?_⟩|refine⟨[iA y1,iA y2,iA y3,tA (qInt y4)],Zc,Gb h,?_⟩|fail);cbv)|(revert hh;(with_reducible refine bdI ?_);intro y1 h hh;have _t:List GOcc:=y1;clear _t;(try dsimp only at hh);(first|refine⟨[tA (qGOcc y1)],Gb h,?_⟩|refine⟨[tA (qGOcc y1)],Zc,Gb h,?_⟩|fail);cbv)|(revert hh;(with_reducible refine bdI ?_);intro y1 h hh;have _t:Bool:=y1;clear _t;(try dsimp only at hh);(first|refine⟨[bA (y1)],Gb h,?_⟩|refine⟨[bA (y1)],Zc,Gb h,?_⟩|fail);cbv)|(revert hh;(with_reducible refine bdI ?_);intro y1 h hh;have _t:List Int:=y1;clear _t;(try dsimp only at hh);(first|refine⟨[tA (qInt y1)],Gb h,?_⟩|refine⟨[tA (qInt y1)],Zc,Gb h,?_⟩|fail);cbv)|(revert hh;(with_reducible refine bdI ?_);intro y h hh;obtain⟨y1,y2,y3,y4⟩:=(y:GEx);(try dsimp only at hh);(first|refine⟨[iA y1,iA y2,iA y3,tA (qGEx y4)],Gb h,?_⟩|refine⟨[iA y1,iA y2,iA y3,tA (qGEx y4)],Zc,Gb h,?_⟩|refine⟨[iA y1,iA y2,iA y3,oA 4 (qGExO y4)],Gb h,?_⟩|refine⟨[iA y1,iA y2,iA y3,oA 4 (qGExO y4)],Zc,Gb h,?_⟩|fail);cbv)|fail)
    |(refine mtT (by with_reducible assumption) ?_;cbv)
    |(refine mtF (by with_reducible assumption) ?_;cbv)
    |refine⟨Zc,?_⟩
    |((first|rw[u1]|rw[u2]|rw[u3]|rw[u4]|rw[u5]|rw[u6]|rw[u7]|rw[u8]|fail);cbv)
    |(refine rwH wz (by with_reducible assumption) ?_;cbv;refine⟨Zc,?_⟩)
    |(refine rwH wz w1 ?_;cbv;refine⟨Zc,?_⟩)
    |(refine rwH wz w2 ?_;cbv;refine⟨Zc,?_⟩)
    |(refine rwH wz w3 ?_;cbv;refine⟨Zc,?_⟩)
    |(refine rwH wz w4 ?_;cbv;refine⟨Zc,?_⟩)
    |(refine rwH (qn qGEx) (by with_reducible assumption) ?_;cbv;refine⟨Zc,?_⟩)
    |(refine rwH (qn qGEx) w1 ?_;cbv;refine⟨Zc,?_⟩)
    |(refine rwH (qn qGEx) w2 ?_;cbv;refine⟨Zc,?_⟩)
    |(refine rwH (qn qGEx) w3 ?_;cbv;refine⟨Zc,?_⟩)
    |(refine rwH (qn qGEx) w4 ?_;cbv;refine⟨Zc,?_⟩)
    |(refine rwH wB (by with_reducible assumption) ?_;cbv;refine⟨Zc,?_⟩)
    |(refine rwH wB w1 ?_;cbv;refine⟨Zc,?_⟩)
    |(refine rwH wB w2 ?_;cbv;refine⟨Zc,?_⟩)
    |(refine rwH wB w3 ?_;cbv;refine⟨Zc,?_⟩)
    |(refine rwH wB w4 ?_;cbv;refine⟨Zc,?_⟩)
    |(refine rwH xg (by with_reducible assumption) ?_;cbv;refine⟨Zc,?_⟩)
    |(refine rwH xg w1 ?_;cbv;refine⟨Zc,?_⟩)
    |(refine rwH xg w2 ?_;cbv;refine⟨Zc,?_⟩)
    |(refine rwH xg w3 ?_;cbv;refine⟨Zc,?_⟩)
    |(refine rwH xg w4 ?_;cbv;refine⟨Zc,?_⟩)
    |(refine rwH (rW qInt) (by with_reducible assumption) ?_;cbv;refine⟨Zc,?_⟩)
    |(refine rwH (rW qInt) w1 ?_;cbv;refine⟨Zc,?_⟩)
    |(refine rwH (rW qInt) w2 ?_;cbv;refine⟨Zc,?_⟩)
    |(refine rwH (rW qInt) w3 ?_;cbv;refine⟨Zc,?_⟩)
    |(refine rwH (rW qInt) w4 ?_;cbv;refine⟨Zc,?_⟩)
    |(refine rwH (aM qInt qGOcc) (by with_reducible assumption) ?_;cbv;refine⟨Zc,?_⟩)
    |(refine rwH (aM qInt qGOcc) w1 ?_;cbv;refine⟨Zc,?_⟩)
    |(refine rwH (aM qInt qGOcc) w2 ?_;cbv;refine⟨Zc,?_⟩)
    |(refine rwH (aM qInt qGOcc) w3 ?_;cbv;refine⟨Zc,?_⟩)
    |(refine rwH (aM qInt qGOcc) w4 ?_;cbv;refine⟨Zc,?_⟩)
    |(refine rwH (mb qInt qGOcc) (by with_reducible assumption) ?_;cbv;refine⟨Zc,?_⟩)
    |(refine rwH (mb qInt qGOcc) w1 ?_;cbv;refine⟨Zc,?_⟩)
    |(refine rwH (mb qInt qGOcc) w2 ?_;cbv;refine⟨Zc,?_⟩)
    |(refine rwH (mb qInt qGOcc) w3 ?_;cbv;refine⟨Zc,?_⟩)
    |(refine rwH (mb qInt qGOcc) w4 ?_;cbv;refine⟨Zc,?_⟩)
    |(refine rwH (kj qGNodeS) (by with_reducible assumption) ?_;cbv;refine⟨Zc,?_⟩)
    |(refine rwH (kj qGNodeS) w1 ?_;cbv;refine⟨Zc,?_⟩)
    |(refine rwH (kj qGNodeS) w2 ?_;cbv;refine⟨Zc,?_⟩)
    |(refine rwH (kj qGNodeS) w3 ?_;cbv;refine⟨Zc,?_⟩)
    |(refine rwH (kj qGNodeS) w4 ?_;cbv;refine⟨Zc,?_⟩)
    |(refine rwH (oN qGNode) (by with_reducible assumption) ?_;cbv;refine⟨Zc,?_⟩)
    |(refine rwH (oN qGNode) w1 ?_;cbv;refine⟨Zc,?_⟩)
    |(refine rwH (oN qGNode) w2 ?_;cbv;refine⟨Zc,?_⟩)
    |(refine rwH (oN qGNode) w3 ?_;cbv;refine⟨Zc,?_⟩)
    |(refine rwH (oN qGNode) w4 ?_;cbv;refine⟨Zc,?_⟩)
    |(refine rwH w8 (by with_reducible assumption) ?_;cbv;refine⟨Zc,?_⟩)
    |(refine rwH w8 w1 ?_;cbv;refine⟨Zc,?_⟩)
    |(refine rwH w8 w2 ?_;cbv;refine⟨Zc,?_⟩)
    |(refine rwH w8 w3 ?_;cbv;refine⟨Zc,?_⟩)
    |(refine rwH w8 w4 ?_;cbv;refine⟨Zc,?_⟩)
    |(refine rwH (qD qInt) (by with_reducible assumption) ?_;cbv;refine⟨Zc,?_⟩)
    |(refine rwH (qD qInt) w1 ?_;cbv;refine⟨Zc,?_⟩)
    |(refine rwH (qD qInt) w2 ?_;cbv;refine⟨Zc,?_⟩)
    |(refine rwH (qD qInt) w3 ?_;cbv;refine⟨Zc,?_⟩)
    |(refine rwH (qD qInt) w4 ?_;cbv;refine⟨Zc,?_⟩)
    |(refine rwH (qx qInt) (by with_reducible assumption) ?_;cbv;refine⟨Zc,?_⟩)
    |(refine rwH (qx qInt) w1 ?_;cbv;refine⟨Zc,?_⟩)
    |(refine rwH (qx qInt) w2 ?_;cbv;refine⟨Zc,?_⟩)
    |(refine rwH (qx qInt) w3 ?_;cbv;refine⟨Zc,?_⟩)
    |(refine rwH (qx qInt) w4 ?_;cbv;refine⟨Zc,?_⟩)
    |(refine rwH (qt qGOcc) (by with_reducible assumption) ?_;cbv;refine⟨Zc,?_⟩)
    |(refine rwH (qt qGOcc) w1 ?_;cbv;refine⟨Zc,?_⟩)
    |(refine rwH (qt qGOcc) w2 ?_;cbv;refine⟨Zc,?_⟩)
    |(refine rwH (qt qGOcc) w3 ?_;cbv;refine⟨Zc,?_⟩)
    |(refine rwH (qt qGOcc) w4 ?_;cbv;refine⟨Zc,?_⟩)
    |(refine rwH sk (by with_reducible assumption) ?_;cbv;refine⟨Zc,?_⟩)
    |(refine rwH sk w1 ?_;cbv;refine⟨Zc,?_⟩)
    |(refine rwH sk w2 ?_;cbv;refine⟨Zc,?_⟩)
    |(refine rwH sk w3 ?_;cbv;refine⟨Zc,?_⟩)
    |(refine rwH sk w4 ?_;cbv;refine⟨Zc,?_⟩)
    |(refine rwH (mO qGNode) (by with_reducible assumption) ?_;cbv;refine⟨Zc,?_⟩)
    |(refine rwH (mO qGNode) w1 ?_;cbv;refine⟨Zc,?_⟩)
    |(refine rwH (mO qGNode) w2 ?_;cbv;refine⟨Zc,?_⟩)
    |(refine rwH (mO qGNode) w3 ?_;cbv;refine⟨Zc,?_⟩)
    |(refine rwH (mO qGNode) w4 ?_;cbv;refine⟨Zc,?_⟩)
    |(refine rwH (tw qInt) (by with_reducible assumption) ?_;cbv;refine⟨Zc,?_⟩)
    |(refine rwH (tw qInt) w1 ?_;cbv;refine⟨Zc,?_⟩)
    |(refine rwH (tw qInt) w2 ?_;cbv;refine⟨Zc,?_⟩)
    |(refine rwH (tw qInt) w3 ?_;cbv;refine⟨Zc,?_⟩)
    |(refine rwH (tw qInt) w4 ?_;cbv;refine⟨Zc,?_⟩)
    |(refine rwH (wu qGEx) (by with_reducible assumption) ?_;cbv;refine⟨Zc,?_⟩)
    |(refine rwH (wu qGEx) w1 ?_;cbv;refine⟨Zc,?_⟩)
    |(refine rwH (wu qGEx) w2 ?_;cbv;refine⟨Zc,?_⟩)
    |(refine rwH (wu qGEx) w3 ?_;cbv;refine⟨Zc,?_⟩)
    |(refine rwH (wu qGEx) w4 ?_;cbv;refine⟨Zc,?_⟩)
    |(refine rwH (tt qGExO) (by with_reducible assumption) ?_;cbv;refine⟨Zc,?_⟩)
    |(refine rwH (tt qGExO) w1 ?_;cbv;refine⟨Zc,?_⟩)
    |(refine rwH (tt qGExO) w2 ?_;cbv;refine⟨Zc,?_⟩)
    |(refine rwH (tt qGExO) w3 ?_;cbv;refine⟨Zc,?_⟩)
    |(refine rwH (tt qGExO) w4 ?_;cbv;refine⟨Zc,?_⟩)
    |exact Jm
    |(cases hh;have hh:some _=some _:=hq3;cases hh;have hh:some _=some _:=hq2;cases hh;have hh:some _=some _:=hq1;refine hQ3 _ _ ?_;refine hQ2 _ _ ?_;refine hQ1 _ _ ?_;cbv)
    |(cases hh;have hh:some _=some _:=hq2;cases hh;have hh:some _=some _:=hq1;refine hQ2 _ _ ?_;refine hQ1 _ _ ?_;cbv)
    |(cases hh;have hh:some _=some _:=hq1;refine hQ1 _ _ ?_;cbv)
    |(have _g:=(by with_reducible exact hh:some _=some _);(first|exact Ec|(refine⟨0,?_⟩;cbv;exact Ec)|(refine⟨1,?_⟩;cbv;exact Ec)|(refine⟨3,?_⟩;cbv;exact Ec)|(refine⟨4,?_⟩;cbv;exact Ec)|(refine⟨5,?_⟩;cbv;exact Ec)|(refine⟨10,?_⟩;cbv;exact Ec)|(refine⟨12,?_⟩;cbv;exact Ec)|fail))
    |fail
  first|done|fail):g:=k
end Go.Proofs.YtlbnmldopjadoaaGreat
