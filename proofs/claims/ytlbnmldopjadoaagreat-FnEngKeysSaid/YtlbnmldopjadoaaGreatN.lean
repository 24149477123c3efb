/- How data stands for memory. -/
import Derived.Test.YtlbnmldopjadoaaGreatL
namespace Go.Proofs.YtlbnmldopjadoaaGreat
open Go Go.Vm
set_option linter.unusedSimpArgs false
def c_Iu8 (x:Int):List A:=[.lit (.int .u8 x)]
def nF (l:List Int):Vm.Rows:=l.map c_Iu8
theorem sn (l:List Int):nF l=l.map c_Iu8:=rfl
theorem Gv (l:List Int):aA (nF l)=nF l:=by
  induction l with
  |nil=>rfl
  |cons x xs ih=>simp only[nF,nF,List.map_cons,aA] at ih⊢;rw[ih];simp[c_Iu8,c_Iu8,bv,fz]
mutual
def c_GEx:GEx→List A
  |⟨a0,a1,a2,a3⟩=>[iA a0,iA a1,iA a2,.tree (kr a3)]
def kr:List GEx→Vm.Rows
  |[]=>[]
  |x::xs=>c_GEx x::kr xs
end
theorem mU:∀l:List GEx,kr l=l.map c_GEx
  |[]=>rfl
  |x::xs=>by simp only[kr,List.map_cons,mU xs]
theorem vg:∀l:List GEx,aA (kr l)=kr l
  |[]=>by simp[kr,aA]
  |⟨a0,a1,a2,a3⟩::xs=>by simp[kr,c_GEx,aA,bv,fz,vg xs]
def c_GRule (x:GRule):List A:=[.lit (.string x.Name),iA x.Pri,iA x.Mode,iA x.Ex.Kind,iA x.Ex.Sym,iA x.Ex.N,.tree (kr x.Ex.Kids),iA x.Low,iA x.High,iA x.Key,iA x.Add,iA x.Raise]
def nT (l:List GRule):Vm.Rows:=l.map c_GRule
theorem pD (l:List GRule):nT l=l.map c_GRule:=rfl
theorem DJ (l:List GRule):aA (nT l)=nT l:=by
  induction l with
  |nil=>rfl
  |cons x xs ih=>simp only[nT,nT,List.map_cons,aA] at ih⊢;rw[ih];simp[c_GRule,c_GRule,bv,fz,vg]
def c_Str (x:ByteArray):List A:=[.lit (.string x)]
def tX (l:List ByteArray):Vm.Rows:=l.map c_Str
theorem tm (l:List ByteArray):tX l=l.map c_Str:=rfl
theorem BC (l:List ByteArray):aA (tX l)=tX l:=by
  induction l with
  |nil=>rfl
  |cons x xs ih=>simp only[tX,tX,List.map_cons,aA] at ih⊢;rw[ih];simp[c_Str,c_Str,bv,fz]
def c_Int (x:Int):List A:=[iA x]
def gd (l:List Int):Vm.Rows:=l.map c_Int
theorem se (l:List Int):gd l=l.map c_Int:=rfl
theorem lr (l:List Int):aA (gd l)=gd l:=by
  induction l with
  |nil=>rfl
  |cons x xs ih=>simp only[gd,gd,List.map_cons,aA] at ih⊢;rw[ih];simp[c_Int,c_Int,bv,fz]
theorem Do (l:List Int):jO (gd l)=true:=by
  induction l with
  |nil=>rfl
  |cons x xs ih=>simp only[gd,List.map_cons,jO] at ih⊢;rw[ih];simp[c_Int,lW,ownd]
mutual
def ou:GEx→List A
  |⟨a0,a1,a2,a3⟩=>[iA a0,iA a1,iA a2,.inl 4 (nh a3)]
def nh:List GEx→Vm.Rows
  |[]=>[]
  |x::xs=>ou x::nh xs
end
theorem rc:∀l:List GEx,nh l=l.map ou
  |[]=>rfl
  |x::xs=>by simp only[nh,List.map_cons,rc xs]
mutual
theorem FM:∀e:GEx,bv (ou e)=c_GEx e
  |⟨a0,a1,a2,a3⟩=>by simp[ou,c_GEx,bv,fz,s6]
theorem s6:∀l:List GEx,aA (nh l)=kr l
  |[]=>by simp[nh,kr,aA]
  |x::xs=>by simp[nh,kr,aA,FM x,s6 xs]
end
def c_GOcc (x:GOcc):List A:=[iA x.From,iA x.To,.tree (gd x.Ids)]
def dn (l:List GOcc):Vm.Rows:=l.map c_GOcc
theorem fJ (l:List GOcc):dn l=l.map c_GOcc:=rfl
theorem uC (l:List GOcc):∀r∈dn l,r.length=3:=by rw[fJ];intro r hr;obtain⟨e,_,rfl⟩:=List.mem_map.1 hr;simp[c_GOcc]
theorem lC (l:List GOcc):aA (dn l)=dn l:=by
  induction l with
  |nil=>rfl
  |cons x xs ih=>simp only[dn,dn,List.map_cons,aA] at ih⊢;rw[ih];simp[c_GOcc,c_GOcc,bv,fz,lr]
def c_GNode (x:GNode):List A:=[iA x.Kind,iA x.Sym,iA x.N,.tree (gd x.Kids),.tree (dn x.Pair.Left),.tree (dn x.Pair.Right),.tree (dn x.Span.Left),.tree (dn x.Span.Mid),.tree (dn x.Due),iA x.Many]
def jt (l:List GNode):Vm.Rows:=l.map c_GNode
theorem mG (l:List GNode):jt l=l.map c_GNode:=rfl
theorem rq (l:List GNode):aA (jt l)=jt l:=by
  induction l with
  |nil=>rfl
  |cons x xs ih=>simp only[jt,jt,List.map_cons,aA] at ih⊢;rw[ih];simp[c_GNode,c_GNode,bv,fz,lC,lr]
def c_GNodeS (x:GNode):List A:=[iA x.Kind,iA x.Sym,iA x.N,.inl 1 (gd x.Kids),.inl 3 (dn x.Pair.Left),.inl 3 (dn x.Pair.Right),.inl 3 (dn x.Span.Left),.inl 3 (dn x.Span.Mid),.inl 3 (dn x.Due),iA x.Many]
def oz (l:List GNode):Vm.Rows:=l.map c_GNodeS
theorem sq (l:List GNode):oz l=l.map c_GNodeS:=rfl
theorem uv (l:List GNode):aA (oz l)=jt l:=by
  induction l with
  |nil=>rfl
  |cons x xs ih=>simp only[oz,jt,List.map_cons,aA] at ih⊢;rw[ih];simp[c_GNodeS,c_GNode,bv,fz,lC,lr]
def c_GGraphS2 (x:GGraph):List A:=[iA x.Mode,.inl 10 (oz x.Nodes),iA x.Seen,iA x.Now,.lit (.bool x.Full)]
def nM (l:List GGraph):Vm.Rows:=l.map c_GGraphS2
theorem pW (l:List GGraph):nM l=l.map c_GGraphS2:=rfl
def c_GGraph (x:GGraph):List A:=[iA x.Mode,.tree (jt x.Nodes),iA x.Seen,iA x.Now,.lit (.bool x.Full)]
def il (l:List GGraph):Vm.Rows:=l.map c_GGraph
theorem jX (l:List GGraph):il l=l.map c_GGraph:=rfl
theorem Ct (l:List GGraph):aA (il l)=il l:=by
  induction l with
  |nil=>rfl
  |cons x xs ih=>simp only[il,il,List.map_cons,aA] at ih⊢;rw[ih];simp[c_GGraph,c_GGraph,bv,fz,rq]
theorem zW (l:List GGraph):aA (nM l)=il l:=by
  induction l with
  |nil=>rfl
  |cons x xs ih=>simp only[nM,il,List.map_cons,aA] at ih⊢;rw[ih];simp[c_GGraphS2,c_GGraph,bv,fz,uv]
def c_GEv (x:GEv):List A:=[iA x.Sym,iA x.At,iA x.Val]
def tL (l:List GEv):Vm.Rows:=l.map c_GEv
theorem sY (l:List GEv):tL l=l.map c_GEv:=rfl
theorem vF (l:List GEv):aA (tL l)=tL l:=by
  induction l with
  |nil=>rfl
  |cons x xs ih=>simp only[tL,tL,List.map_cons,aA] at ih⊢;rw[ih];simp[c_GEv,c_GEv,bv,fz]
def c_GFire (x:GFire):List A:=[iA x.Rule,iA x.Occ.From,iA x.Occ.To,.tree (gd x.Occ.Ids)]
def nW (l:List GFire):Vm.Rows:=l.map c_GFire
theorem pS (l:List GFire):nW l=l.map c_GFire:=rfl
theorem Ea (l:List GFire):aA (nW l)=nW l:=by
  induction l with
  |nil=>rfl
  |cons x xs ih=>simp only[nW,nW,List.map_cons,aA] at ih⊢;rw[ih];simp[c_GFire,c_GFire,bv,fz,lr]
def c_GOccO (x:GOcc):List A:=[iA x.From,iA x.To,.inl 1 (gd x.Ids)]
def tJ (l:List GOcc):Vm.Rows:=l.map c_GOccO
theorem uu (l:List GOcc):tJ l=l.map c_GOccO:=rfl
theorem DM (l:List GOcc):aA (tJ l)=dn l:=by
  induction l with
  |nil=>rfl
  |cons x xs ih=>simp only[tJ,dn,List.map_cons,aA] at ih⊢;rw[ih];simp[c_GOccO,c_GOcc,bv,fz,lr]
def c_LGOcc (x:List GOcc):List A:=[.tree (dn x)]
def nX (l:List (List GOcc)):Vm.Rows:=l.map c_LGOcc
theorem pP (l:List (List GOcc)):nX l=l.map c_LGOcc:=rfl
theorem xg (l:List (List GOcc)):aA (nX l)=nX l:=by
  induction l with
  |nil=>rfl
  |cons x xs ih=>simp only[nX,nX,List.map_cons,aA] at ih⊢;rw[ih];simp[c_LGOcc,c_LGOcc,bv,fz,lC]
def c_Bool (x:Bool):List A:=[.lit (.bool x)]
def mR (l:List Bool):Vm.Rows:=l.map c_Bool
theorem qJ (l:List Bool):mR l=l.map c_Bool:=rfl
theorem EG (l:List Bool):aA (mR l)=mR l:=by
  induction l with
  |nil=>rfl
  |cons x xs ih=>simp only[mR,mR,List.map_cons,aA] at ih⊢;rw[ih];simp[c_Bool,c_Bool,bv,fz]
theorem pR (l:List Bool):jO (mR l)=true:=by
  induction l with
  |nil=>rfl
  |cons x xs ih=>simp only[mR,List.map_cons,jO] at ih⊢;rw[ih];simp[c_Bool,lW,ownd]
def c_GGraphS (x:GGraph):List A:=[iA x.Mode,.inl 10 (jt x.Nodes),iA x.Seen,iA x.Now,.lit (.bool x.Full)]
def po (l:List GGraph):Vm.Rows:=l.map c_GGraphS
theorem ry (l:List GGraph):po l=l.map c_GGraphS:=rfl
theorem AA (l:List GGraph):aA (po l)=il l:=by
  induction l with
  |nil=>rfl
  |cons x xs ih=>simp only[po,il,List.map_cons,aA] at ih⊢;rw[ih];simp[c_GGraphS,c_GGraph,bv,fz,rq]
def c_LInt (x:List Int):List A:=[.tree (gd x)]
def qb (l:List (List Int)):Vm.Rows:=l.map c_LInt
theorem rg (l:List (List Int)):qb l=l.map c_LInt:=rfl
theorem zh (l:List (List Int)):aA (qb l)=qb l:=by
  induction l with
  |nil=>rfl
  |cons x xs ih=>simp only[qb,qb,List.map_cons,aA] at ih⊢;rw[ih];simp[c_LInt,c_LInt,bv,fz,lr]
@[simp] theorem r_Iu8_fzm (l:List Int):aA (l.map c_Iu8)=l.map c_Iu8:=by rw[←sn,Gv,sn]
@[simp] theorem r_GEx_fzm (l:List GEx):aA (l.map c_GEx)=l.map c_GEx:=by rw[←mU,vg,mU]
@[simp] theorem r_GRule_fzm (l:List GRule):aA (l.map c_GRule)=l.map c_GRule:=by rw[←pD,DJ,pD]
@[simp] theorem r_Str_fzm (l:List ByteArray):aA (l.map c_Str)=l.map c_Str:=by rw[←tm,BC,tm]
@[simp] theorem r_Int_fzm (l:List Int):aA (l.map c_Int)=l.map c_Int:=by rw[←se,lr,se]
@[simp] theorem r_GExO_fzm (l:List GEx):aA (l.map ou)=l.map c_GEx:=by rw[←rc,s6,mU]
@[simp] theorem r_GOcc_fzm (l:List GOcc):aA (l.map c_GOcc)=l.map c_GOcc:=by rw[←fJ,lC,fJ]
@[simp] theorem r_GNode_fzm (l:List GNode):aA (l.map c_GNode)=l.map c_GNode:=by rw[←mG,rq,mG]
@[simp] theorem IV (l:List GNode):aA (l.map c_GNodeS)=l.map c_GNode:=by rw[←sq,uv,mG]
@[simp] theorem Hz (l:List GGraph):aA (l.map c_GGraphS2)=l.map c_GGraph:=by rw[←pW,zW,jX]
@[simp] theorem IK (l:List GGraph):aA (l.map c_GGraph)=l.map c_GGraph:=by rw[←jX,Ct,jX]
@[simp] theorem r_GEv_fzm (l:List GEv):aA (l.map c_GEv)=l.map c_GEv:=by rw[←sY,vF,sY]
@[simp] theorem r_GFire_fzm (l:List GFire):aA (l.map c_GFire)=l.map c_GFire:=by rw[←pS,Ea,pS]
@[simp] theorem r_GOccO_fzm (l:List GOcc):aA (l.map c_GOccO)=l.map c_GOcc:=by rw[←uu,DM,fJ]
@[simp] theorem r_LGOcc_fzm (l:List (List GOcc)):aA (l.map c_LGOcc)=l.map c_LGOcc:=by rw[←pP,xg,pP]
@[simp] theorem r_Bool_fzm (l:List Bool):aA (l.map c_Bool)=l.map c_Bool:=by rw[←qJ,EG,qJ]
@[simp] theorem H8 (l:List GGraph):aA (l.map c_GGraphS)=l.map c_GGraph:=by rw[←ry,AA,jX]
@[simp] theorem r_LInt_fzm (l:List (List Int)):aA (l.map c_LInt)=l.map c_LInt:=by rw[←rg,zh,rg]
attribute [simp] c_Iu8 sn c_GEx mU c_GRule pD c_Str tm c_Int se ou rc c_GOcc fJ c_GNode mG c_GNodeS sq c_GGraphS2 pW c_GGraph jX c_GEv sY c_GFire pS c_GOccO uu c_LGOcc pP c_Bool qJ c_GGraphS ry c_LInt rg
/-- the encoders, iM names -/
inductive EQ:(List Int→Vm.Rows)→(List GEx→Vm.Rows)→(List GRule→Vm.Rows)→(List ByteArray→Vm.Rows)→(List Int→Vm.Rows)→(List GEx→Vm.Rows)→(List GOcc→Vm.Rows)→(List GNode→Vm.Rows)→(List GNode→Vm.Rows)→(List GGraph→Vm.Rows)→(List GGraph→Vm.Rows)→(List GEv→Vm.Rows)→(List GFire→Vm.Rows)→(List GOcc→Vm.Rows)→(List (List GOcc)→Vm.Rows)→(List Bool→Vm.Rows)→(List GGraph→Vm.Rows)→(List (List Int)→Vm.Rows)→Prop where
  |mk:EQ nF kr nT tX gd nh dn jt oz nM il tL nW tJ nX mR po qb
abbrev wx (x:Int):List A:=[.lit (.int .u8 x)]
abbrev qh (qGEx:Vm.RW GEx) (x:GRule):List A:=[.lit (.string x.Name),iA x.Pri,iA x.Mode,iA x.Ex.Kind,iA x.Ex.Sym,iA x.Ex.N,.tree (qGEx x.Ex.Kids),iA x.Low,iA x.High,iA x.Key,iA x.Add,iA x.Raise]
abbrev wz (x:ByteArray):List A:=[.lit (.string x)]
abbrev xe (x:Int):List A:=[iA x]
abbrev rT (qInt:Vm.RW Int) (x:GOcc):List A:=[iA x.From,iA x.To,.tree (qInt x.Ids)]
abbrev aM (qInt:Vm.RW Int) (qGOcc:Vm.RW GOcc) (x:GNode):List A:=[iA x.Kind,iA x.Sym,iA x.N,.tree (qInt x.Kids),.tree (qGOcc x.Pair.Left),.tree (qGOcc x.Pair.Right),.tree (qGOcc x.Span.Left),.tree (qGOcc x.Span.Mid),.tree (qGOcc x.Due),iA x.Many]
abbrev mc (qInt:Vm.RW Int) (qGOcc:Vm.RW GOcc) (x:GNode):List A:=[iA x.Kind,iA x.Sym,iA x.N,.inl 1 (qInt x.Kids),.inl 3 (qGOcc x.Pair.Left),.inl 3 (qGOcc x.Pair.Right),.inl 3 (qGOcc x.Span.Left),.inl 3 (qGOcc x.Span.Mid),.inl 3 (qGOcc x.Due),iA x.Many]
abbrev kn (qGNodeS:Vm.RW GNode) (x:GGraph):List A:=[iA x.Mode,.inl 10 (qGNodeS x.Nodes),iA x.Seen,iA x.Now,.lit (.bool x.Full)]
abbrev oJ (qGNode:Vm.RW GNode) (x:GGraph):List A:=[iA x.Mode,.tree (qGNode x.Nodes),iA x.Seen,iA x.Now,.lit (.bool x.Full)]
abbrev wY (x:GEv):List A:=[iA x.Sym,iA x.At,iA x.Val]
abbrev qy (qInt:Vm.RW Int) (x:GFire):List A:=[iA x.Rule,iA x.Occ.From,iA x.Occ.To,.tree (qInt x.Occ.Ids)]
abbrev qr (qInt:Vm.RW Int) (x:GOcc):List A:=[iA x.From,iA x.To,.inl 1 (qInt x.Ids)]
abbrev ql (qGOcc:Vm.RW GOcc) (x:List GOcc):List A:=[.tree (qGOcc x)]
abbrev si (x:Bool):List A:=[.lit (.bool x)]
abbrev mO (qGNode:Vm.RW GNode) (x:GGraph):List A:=[iA x.Mode,.inl 10 (qGNode x.Nodes),iA x.Seen,iA x.Now,.lit (.bool x.Full)]
abbrev tw (qInt:Vm.RW Int) (x:List Int):List A:=[.tree (qInt x)]
abbrev wq (qGEx:Vm.RW GEx) (x:GEx):List A:=[iA x.Kind,iA x.Sym,iA x.N,.tree (qGEx x.Kids)]
abbrev tt (qGExO:Vm.RW GEx) (x:GEx):List A:=[iA x.Kind,iA x.Sym,iA x.N,.inl 4 (qGExO x.Kids)]
set_option maxRecDepth 100000
/-- a closure that is handed on -/
theorem Hg {g:Prop} (k:g:=by first|exact hg0|exact hg1|exact hg2|exact fun h=>c1 hQ h|exact fun h=>c2 hQ h|exact fun h=>c3 hQ h|exact fun h=>c4 hQ h|exact fun h=>c5 hQ h|exact fun h=>c6 hQ h|exact fun h=>c7 hQ h|exact fun h=>c8 hQ h|exact fun h=>c9 hQ h|exact fun h=>d1 h|exact fun h=>d2 h|exact fun h=>d3 h|fail):g:=k
/-- a round's end -/
theorem Jm {g:Prop} (k:g:=by
  first
  |exact hD3 _ _ hh fun⟨t0,t1,t2,t3,t4,t5,t6,t7,t8,t9,t10,t11⟩ e=>kA
  |exact hD3 _ _ hh fun⟨t0,t1,t2,t3,t4,t5,t6,t7,t8,t9,t10⟩ e=>kA
  |exact hD3 _ _ hh fun⟨t0,t1,t2,t3,t4,t5,t6,t7,t8,t9⟩ e=>kA
  |exact hD3 _ _ hh fun⟨t0,t1,t2,t3,t4,t5,t6,t7,t8⟩ e=>kA
  |exact hD3 _ _ hh fun⟨t0,t1,t2,t3,t4,t5,t6,t7⟩ e=>kA
  |exact hD3 _ _ hh fun⟨t0,t1,t2,t3,t4,t5,t6⟩ e=>kA
  |exact hD3 _ _ hh fun⟨t0,t1,t2,t3,t4,t5⟩ e=>kA
  |exact hD3 _ _ hh fun⟨t0,t1,t2,t3,t4⟩ e=>kA
  |exact hD3 _ _ hh fun⟨t0,t1,t2,t3⟩ e=>kA
  |exact hD3 _ _ hh fun⟨t0,t1,t2⟩ e=>kA
  |exact hD3 _ _ hh fun⟨t0,t1⟩ e=>kA
  |exact hD3 _ _ hh fun t0 e=>kA
  |exact hD3 _ _ hh fun _ e=>kA
  |exact hD2 _ _ hh fun⟨t0,t1,t2,t3,t4,t5,t6,t7,t8,t9,t10,t11⟩ e=>kA
  |exact hD2 _ _ hh fun⟨t0,t1,t2,t3,t4,t5,t6,t7,t8,t9,t10⟩ e=>kA
  |exact hD2 _ _ hh fun⟨t0,t1,t2,t3,t4,t5,t6,t7,t8,t9⟩ e=>kA
  |exact hD2 _ _ hh fun⟨t0,t1,t2,t3,t4,t5,t6,t7,t8⟩ e=>kA
  |exact hD2 _ _ hh fun⟨t0,t1,t2,t3,t4,t5,t6,t7⟩ e=>kA
  |exact hD2 _ _ hh fun⟨t0,t1,t2,t3,t4,t5,t6⟩ e=>kA
  |exact hD2 _ _ hh fun⟨t0,t1,t2,t3,t4,t5⟩ e=>kA
  |exact hD2 _ _ hh fun⟨t0,t1,t2,t3,t4⟩ e=>kA
  |exact hD2 _ _ hh fun⟨t0,t1,t2,t3⟩ e=>kA
  |exact hD2 _ _ hh fun⟨t0,t1,t2⟩ e=>kA
  |exact hD2 _ _ hh fun⟨t0,t1⟩ e=>kA
  |exact hD2 _ _ hh fun t0 e=>kA
  |exact hD2 _ _ hh fun _ e=>kA
  |exact hD1 _ _ hh fun⟨t0,t1,t2,t3,t4,t5,t6,t7,t8,t9,t10,t11⟩ e=>kA
  |exact hD1 _ _ hh fun⟨t0,t1,t2,t3,t4,t5,t6,t7,t8,t9,t10⟩ e=>kA
  |exact hD1 _ _ hh fun⟨t0,t1,t2,t3,t4,t5,t6,t7,t8,t9⟩ e=>kA
  |exact hD1 _ _ hh fun⟨t0,t1,t2,t3,t4,t5,t6,t7,t8⟩ e=>kA
  |exact hD1 _ _ hh fun⟨t0,t1,t2,t3,t4,t5,t6,t7⟩ e=>kA
  |exact hD1 _ _ hh fun⟨t0,t1,t2,t3,t4,t5,t6⟩ e=>kA
  |exact hD1 _ _ hh fun⟨t0,t1,t2,t3,t4,t5⟩ e=>kA
  |exact hD1 _ _ hh fun⟨t0,t1,t2,t3,t4⟩ e=>kA
  |exact hD1 _ _ hh fun⟨t0,t1,t2,t3⟩ e=>kA
  |exact hD1 _ _ hh fun⟨t0,t1,t2⟩ e=>kA
  |exact hD1 _ _ hh fun⟨t0,t1⟩ e=>kA
  |exact hD1 _ _ hh fun t0 e=>kA
  |exact hD1 _ _ hh fun _ e=>kA
  |exact hN3 (_,_,_,_,_,_,_,_,_,_,_,_) _ hh fun⟨t0,t1,t2,t3,t4,t5,t6,t7,t8,t9,t10,t11⟩ e=>kA
  |exact hN3 (_,_,_,_,_,_,_,_,_,_,_) _ hh fun⟨t0,t1,t2,t3,t4,t5,t6,t7,t8,t9,t10⟩ e=>kA
  |exact hN3 (_,_,_,_,_,_,_,_,_,_) _ hh fun⟨t0,t1,t2,t3,t4,t5,t6,t7,t8,t9⟩ e=>kA
  |exact hN3 (_,_,_,_,_,_,_,_,_) _ hh fun⟨t0,t1,t2,t3,t4,t5,t6,t7,t8⟩ e=>kA
  |exact hN3 (_,_,_,_,_,_,_,_) _ hh fun⟨t0,t1,t2,t3,t4,t5,t6,t7⟩ e=>kA
  |exact hN3 (_,_,_,_,_,_,_) _ hh fun⟨t0,t1,t2,t3,t4,t5,t6⟩ e=>kA
  |exact hN3 (_,_,_,_,_,_) _ hh fun⟨t0,t1,t2,t3,t4,t5⟩ e=>kA
  |exact hN3 (_,_,_,_,_) _ hh fun⟨t0,t1,t2,t3,t4⟩ e=>kA
  |exact hN3 (_,_,_,_) _ hh fun⟨t0,t1,t2,t3⟩ e=>kA
  |exact hN3 (_,_,_) _ hh fun⟨t0,t1,t2⟩ e=>kA
  |exact hN3 (_,_) _ hh fun⟨t0,t1⟩ e=>kA
  |exact hN3 _ _ hh fun t0 e=>kA
  |exact hN3 () _ hh fun _ e=>kA
  |exact hN2 (_,_,_,_,_,_,_,_,_,_,_,_) _ hh fun⟨t0,t1,t2,t3,t4,t5,t6,t7,t8,t9,t10,t11⟩ e=>kA
  |exact hN2 (_,_,_,_,_,_,_,_,_,_,_) _ hh fun⟨t0,t1,t2,t3,t4,t5,t6,t7,t8,t9,t10⟩ e=>kA
  |exact hN2 (_,_,_,_,_,_,_,_,_,_) _ hh fun⟨t0,t1,t2,t3,t4,t5,t6,t7,t8,t9⟩ e=>kA
  |exact hN2 (_,_,_,_,_,_,_,_,_) _ hh fun⟨t0,t1,t2,t3,t4,t5,t6,t7,t8⟩ e=>kA
  |exact hN2 (_,_,_,_,_,_,_,_) _ hh fun⟨t0,t1,t2,t3,t4,t5,t6,t7⟩ e=>kA
  |exact hN2 (_,_,_,_,_,_,_) _ hh fun⟨t0,t1,t2,t3,t4,t5,t6⟩ e=>kA
  |exact hN2 (_,_,_,_,_,_) _ hh fun⟨t0,t1,t2,t3,t4,t5⟩ e=>kA
  |exact hN2 (_,_,_,_,_) _ hh fun⟨t0,t1,t2,t3,t4⟩ e=>kA
  |exact hN2 (_,_,_,_) _ hh fun⟨t0,t1,t2,t3⟩ e=>kA
  |exact hN2 (_,_,_) _ hh fun⟨t0,t1,t2⟩ e=>kA
  |exact hN2 (_,_) _ hh fun⟨t0,t1⟩ e=>kA
  |exact hN2 _ _ hh fun t0 e=>kA
  |exact hN2 () _ hh fun _ e=>kA
  |exact hN1 (_,_,_,_,_,_,_,_,_,_,_,_) _ hh fun⟨t0,t1,t2,t3,t4,t5,t6,t7,t8,t9,t10,t11⟩ e=>kA
  |exact hN1 (_,_,_,_,_,_,_,_,_,_,_) _ hh fun⟨t0,t1,t2,t3,t4,t5,t6,t7,t8,t9,t10⟩ e=>kA
  |exact hN1 (_,_,_,_,_,_,_,_,_,_) _ hh fun⟨t0,t1,t2,t3,t4,t5,t6,t7,t8,t9⟩ e=>kA
  |exact hN1 (_,_,_,_,_,_,_,_,_) _ hh fun⟨t0,t1,t2,t3,t4,t5,t6,t7,t8⟩ e=>kA
  |exact hN1 (_,_,_,_,_,_,_,_) _ hh fun⟨t0,t1,t2,t3,t4,t5,t6,t7⟩ e=>kA
  |exact hN1 (_,_,_,_,_,_,_) _ hh fun⟨t0,t1,t2,t3,t4,t5,t6⟩ e=>kA
  |exact hN1 (_,_,_,_,_,_) _ hh fun⟨t0,t1,t2,t3,t4,t5⟩ e=>kA
  |exact hN1 (_,_,_,_,_) _ hh fun⟨t0,t1,t2,t3,t4⟩ e=>kA
  |exact hN1 (_,_,_,_) _ hh fun⟨t0,t1,t2,t3⟩ e=>kA
  |exact hN1 (_,_,_) _ hh fun⟨t0,t1,t2⟩ e=>kA
  |exact hN1 (_,_) _ hh fun⟨t0,t1⟩ e=>kA
  |exact hN1 _ _ hh fun t0 e=>kA
  |exact hN1 () _ hh fun _ e=>kA
  |fail):g:=k
/-- what is left of a function, its steps and those of the plain function side by side -/
theorem D {g:Prop} (k:g:=by
  repeat' first
    |(have _y:=f;(first|(have _z:=u1;(first|(have _z:=u2;(first|(have _z:=u3;(first|(have _z:=u4;(first|(have _z:=u5;(first|(have _z:=u6;(first|(have _z:=u7;(have u8:=f))|have u7:=f))|have u6:=f))|have u5:=f))|have u4:=f))|have u3:=f))|have u2:=f))|have u1:=f);clear f)
    |(have _y:=h;(first|(have _z:=w1;(first|(have _z:=w2;(first|(have _z:=w3;(have w4:=h))|have w3:=h))|have w2:=h))|have w1:=h);clear h)
    |(revert hh;(with_reducible refine rqI ?_);intro _ hh)
    |with_reducible exact nnI hh
    |(have _g:=(by with_reducible exact iteG hh);clear _g;first|((first|rw[u1]|rw[u2]|rw[u3]|rw[u4]|rw[u5]|rw[u6]|rw[u7]|rw[u8]|fail);cbv)|((revert hh;refine bq ?_ ?_ <;> (intro f hh;(try rw[f]);cbv)))|((revert hh;refine bqm ?_ ?_ <;> (intro f hh;(try rw[f]);cbv)))|((revert hh;refine bnm ?_ ?_ <;> (intro f hh;(try rw[f]);cbv)))|((refine mmT (by with_reducible assumption) ?_;cbv))|((refine mmF (by with_reducible assumption) ?_;cbv))|((revert hh;refine bn ?_ ?_ <;> (intro f hh;(try rw[f]);cbv)))|(refine⟨Zc,?_⟩)|fail)
    |(have _g:=(by with_reducible exact bindG hh);clear _g;first|(revert hh;(first|refine cqI hF (fun y h=>c1 hQ h) ?_|refine cqI hF (fun y h=>c2 hQ h) ?_|refine cqI hF (fun y h=>c3 hQ h) ?_|refine cqI hF (fun y h=>c4 hQ h) ?_|refine cqI hF (fun y h=>c5 hQ h) ?_|refine cqI hF (fun y h=>c6 hQ h) ?_|refine cqI hF (fun y h=>c7 hQ h) ?_|refine cqI hF (fun y h=>c8 hQ h) ?_|refine cqI hF (fun y h=>c9 hQ h) ?_|refine cqI hF (fun y h=>d1 h) ?_|refine cqI hF (fun y h=>d2 h) ?_|refine cqI hF (fun y h=>d3 h) ?_|refine cqI hF (fun y h=>hg0 h) ?_|refine cqI hF (fun y h=>hg1 h) ?_|refine cqI hF (fun y h=>hg2 h) ?_|refine cqI hF (fun y h=>hg3 h) ?_|refine cqI hF (fun y h=>e1 hQ Hg h) ?_|refine cqI hF (fun y h=>e2 hQ Hg h) ?_|refine cqI hF (fun y h=>e3 hQ Hg h) ?_|refine cqI hF (fun y h=>e4 hQ Hg h) ?_|fail);intro y _ hh;(first|obtain⟨_,_⟩:=(y:(List GOcc)×(List GOcc))|obtain⟨_,_,_⟩:=(y:(List GOcc)×(List GOcc)×(List GOcc))|obtain⟨_,⟨_,_,_,_,_⟩⟩:=(y:(List GOcc)×GGraph)|obtain⟨_,⟨_,_,_,_,_⟩,⟨_,_,_⟩⟩:=(y:(List GOcc)×GGraph×GEv)|obtain⟨_,⟨_,_⟩⟩:=(y:(List GRule)×Gl14Rd)|obtain⟨_,_,_⟩:=(y:tW)|obtain⟨_,_,_,_,_⟩:=(y:GEng)|obtain⟨⟨_,_,_,_,_⟩,⟨_,_⟩⟩:=(y:GEng×Gl14Rd)|obtain⟨⟨_,_,_,_,_⟩,_,_⟩:=(y:GEng×Int×(List GFire))|obtain⟨⟨_,_,_,_,_⟩,_,_,_⟩:=(y:GEng×Int×Int×Int)|obtain⟨_,_,_⟩:=(y:GEv)|obtain⟨_,_,_,_⟩:=(y:GEx)|obtain⟨⟨_,_,_,_⟩,⟨_,_⟩⟩:=(y:GEx×Gl14Rd)|obtain⟨_,⟨_,_,_⟩⟩:=(y:GFire)|obtain⟨_,_,_,_,_⟩:=(y:GGraph)|obtain⟨⟨_,_,_,_,_⟩,_,_⟩:=(y:GGraph×(List ByteArray)×Int)|obtain⟨⟨_,_,_,_,_⟩,_⟩:=(y:GGraph×(List GOcc))|obtain⟨_,_,_,_,⟨_,_⟩,⟨_,_⟩,_,_⟩:=(y:GNode)|obtain⟨⟨_,_,_,_,⟨_,_⟩,⟨_,_⟩,_,_⟩,_⟩:=(y:GNode×(List GOcc))|obtain⟨_,_,_⟩:=(y:GOcc)|obtain⟨⟨_,_,_⟩,⟨_,_⟩⟩:=(y:GOcc×Gl14Rd)|obtain⟨_,_⟩:=(y:GPair)|obtain⟨⟨_,_⟩,_⟩:=(y:GPair×(List GOcc))|obtain⟨_,_,_,⟨_,_,_,_⟩,_,_,_,_,_⟩:=(y:GRule)|obtain⟨⟨_,_,_,⟨_,_,_,_⟩,_,_,_,_,_⟩,⟨_,_⟩⟩:=(y:GRule×Gl14Rd)|obtain⟨_,_⟩:=(y:GSpan)|obtain⟨⟨_,_⟩,_⟩:=(y:GSpan×(List GOcc))|obtain⟨_,_⟩:=(y:Gl14Rd)|obtain⟨⟨_,_,_,_,_⟩,_,_,_⟩:=(y:Gl9Call)|obtain⟨_,_⟩:=(y:Graiser)|obtain⟨_,_⟩:=(y:Int×Bool)|obtain⟨_,_,⟨_,_,_,_,_⟩⟩:=(y:Int×Bool×GGraph)|obtain⟨_,⟨_,_,_,_,_⟩,⟨_,_⟩⟩:=(y:Int×GEng×Graiser)|obtain⟨_,⟨_,_⟩⟩:=(y:Int×Gl14Rd)|obtain⟨_,_⟩:=(y:Int×Int)|skip);(try dsimp only at hh);cbv)|(revert hh;(with_reducible refine bdI ?_);intro y1 h hh;have _t:Int:=y1;clear _t;(try dsimp only at hh);(first|refine⟨[.lit (.int .u8 y1)],Gb h,?_⟩|refine⟨[.lit (.int .u8 y1)],Zc,Gb h,?_⟩|refine⟨[iA y1],Gb h,?_⟩|refine⟨[iA y1],Zc,Gb h,?_⟩|fail);cbv)|(revert hh;(with_reducible refine bdI ?_);intro y h hh;obtain⟨y1,y2,y3,⟨y4,y5,y6,y7⟩,y8,y9,y10,y11,y12⟩:=(y:GRule);(try dsimp only at hh);(first|refine⟨[sA (y1),iA y2,iA y3,iA y4,iA y5,iA y6,tA (qGEx y7),iA y8,iA y9,iA y10,iA y11,iA y12],Gb h,?_⟩|refine⟨[sA (y1),iA y2,iA y3,iA y4,iA y5,iA y6,tA (qGEx y7),iA y8,iA y9,iA y10,iA y11,iA y12],Zc,Gb h,?_⟩|fail);cbv)|(revert hh;(with_reducible refine bdI ?_);intro y1 h hh;have _t:ByteArray:=y1;clear _t;(try dsimp only at hh);(first|refine⟨[sA (y1)],Gb h,?_⟩|refine⟨[sA (y1)],Zc,Gb h,?_⟩|fail);cbv)|(revert hh;(with_reducible refine bdI ?_);intro y h hh;obtain⟨y1,y2,y3⟩:=(y:GOcc);(try dsimp only at hh);(first|refine⟨[iA y1,iA y2,tA (qInt y3)],Gb h,?_⟩|refine⟨[iA y1,iA y2,tA (qInt y3)],Zc,Gb h,?_⟩|refine⟨[iA y1,iA y2,oA 1 (qInt y3)],Gb h,?_⟩|refine⟨[iA y1,iA y2,oA 1 (qInt y3)],Zc,Gb h,?_⟩|fail);cbv)|(revert hh;(with_reducible refine bdI ?_);intro y h hh;obtain⟨y1,y2,y3,y4,⟨y5,y6⟩,⟨y7,y8⟩,y9,y10⟩:=(y:GNode);(try dsimp only at hh);(first|refine⟨[iA y1,iA y2,iA y3,tA (qInt y4),tA (qGOcc y5),tA (qGOcc y6),tA (qGOcc y7),tA (qGOcc y8),tA (qGOcc y9),iA y10],Gb h,?_⟩|refine⟨[iA y1,iA y2,iA y3,tA (qInt y4),tA (qGOcc y5),tA (qGOcc y6),tA (qGOcc y7),tA (qGOcc y8),tA (qGOcc y9),iA y10],Zc,Gb h,?_⟩|refine⟨[iA y1,iA y2,iA y3,oA 1 (qInt y4),oA 3 (qGOcc y5),oA 3 (qGOcc y6),oA 3 (qGOcc y7),oA 3 (qGOcc y8),oA 3 (qGOcc y9),iA y10],Gb h,?_⟩|refine⟨[iA y1,iA y2,iA y3,oA 1 (qInt y4),oA 3 (qGOcc y5),oA 3 (qGOcc y6),oA 3 (qGOcc y7),oA 3 (qGOcc y8),oA 3 (qGOcc y9),iA y10],Zc,Gb h,?_⟩|fail);cbv)|(revert hh;(with_reducible refine bdI ?_);intro y h hh;obtain⟨y1,y2,y3,y4,y5⟩:=(y:GGraph);(try dsimp only at hh);(first|refine⟨[iA y1,oA 10 (qGNodeS y2),iA y3,iA y4,bA (y5)],Gb h,?_⟩|refine⟨[iA y1,oA 10 (qGNodeS y2),iA y3,iA y4,bA (y5)],Zc,Gb h,?_⟩|refine⟨[iA y1,tA (qGNode y2),iA y3,iA y4,bA (y5)],Gb h,?_⟩|refine⟨[iA y1,tA (qGNode y2),iA y3,iA y4,bA (y5)],Zc,Gb h,?_⟩|refine⟨[iA y1,oA 10 (qGNode y2),iA y3,iA y4,bA (y5)],Gb h,?_⟩|refine⟨[iA y1,oA 10 (qGNode y2),iA y3,iA y4,bA (y5)],Zc,Gb h,?_⟩|fail);cbv)|(revert hh;(with_reducible refine bdI ?_);intro y h hh;obtain⟨y1,y2,y3⟩:=(y:GEv);(try dsimp only at hh);(first|refine⟨[iA y1,iA y2,iA y3],Gb h,?_⟩|refine⟨[iA y1,iA y2,iA y3],Zc,Gb h,?_⟩|fail);cbv)|(revert hh;(with_reducible refine bdI ?_);intro y h hh;obtain⟨y1,⟨y2,y3,y4⟩⟩:=(y:GFire);(try dsimp only at hh);(first|refine⟨[iA y1,iA y2,iA y3,tA (qInt y4)],Gb h,?_⟩|refine⟨[iA y1,iA y2,iA y3,tA (qInt y4)],Zc,Gb h,?_⟩|fail);cbv)|(revert hh;(with_reducible refine bdI ?_);intro y1 h hh;have _t:List GOcc:=y1;clear _t;(try dsimp only at hh);(first|refine⟨[tA (qGOcc y1)],Gb h,?_⟩|refine⟨[tA (qGOcc y1)],Zc,Gb h,?_⟩|fail);cbv)|(revert hh;(with_reducible refine bdI ?_);intro y1 h hh;have _t:Bool:=y1;clear _t;(try dsimp only at hh);(first|refine⟨[bA (y1)],Gb h,?_⟩|refine⟨[bA (y1)],Zc,Gb h,?_⟩|fail);cbv)|(revert hh;(with_reducible refine bdI ?_);intro y1 h hh;have _t:List Int:=y1;clear _t;(try dsimp only at hh);(first|refine⟨[tA (qInt y1)],Gb h,?_⟩|refine⟨[tA (qInt y1)],Zc,Gb h,?_⟩|fail);cbv)|(revert hh;(with_reducible refine bdI ?_);intro y h hh;obtain⟨y1,y2,y3,y4⟩:=(y:GEx);(try dsimp only at hh);(first|refine⟨[iA y1,iA y2,iA y3,tA (qGEx y4)],Gb h,?_⟩|refine⟨[iA y1,iA y2,iA y3,tA (qGEx y4)],Zc,Gb h,?_⟩|refine⟨[iA y1,iA y2,iA y3,oA 4 (qGExO y4)],Gb h,?_⟩|refine⟨[iA y1,iA y2,iA y3,oA 4 (qGExO y4)],Zc,Gb h,?_⟩|fail);cbv)|fail)
    |(refine mtT (by with_reducible assumption) ?_;cbv)
    |(refine mtF (by with_reducible assumption) ?_;cbv)
    |refine⟨Zc,?_⟩
    |((first|rw[u1]|rw[u2]|rw[u3]|rw[u4]|rw[u5]|rw[u6]|rw[u7]|rw[u8]|fail);cbv)
    |(refine rwH wx (by with_reducible assumption) ?_;cbv;refine⟨Zc,?_⟩)
    |(refine rwH wx w1 ?_;cbv;refine⟨Zc,?_⟩)
    |(refine rwH wx w2 ?_;cbv;refine⟨Zc,?_⟩)
    |(refine rwH wx w3 ?_;cbv;refine⟨Zc,?_⟩)
    |(refine rwH wx w4 ?_;cbv;refine⟨Zc,?_⟩)
    |(refine rwH (qh qGEx) (by with_reducible assumption) ?_;cbv;refine⟨Zc,?_⟩)
    |(refine rwH (qh qGEx) w1 ?_;cbv;refine⟨Zc,?_⟩)
    |(refine rwH (qh qGEx) w2 ?_;cbv;refine⟨Zc,?_⟩)
    |(refine rwH (qh qGEx) w3 ?_;cbv;refine⟨Zc,?_⟩)
    |(refine rwH (qh qGEx) w4 ?_;cbv;refine⟨Zc,?_⟩)
    |(refine rwH wz (by with_reducible assumption) ?_;cbv;refine⟨Zc,?_⟩)
    |(refine rwH wz w1 ?_;cbv;refine⟨Zc,?_⟩)
    |(refine rwH wz w2 ?_;cbv;refine⟨Zc,?_⟩)
    |(refine rwH wz w3 ?_;cbv;refine⟨Zc,?_⟩)
    |(refine rwH wz w4 ?_;cbv;refine⟨Zc,?_⟩)
    |(refine rwH xe (by with_reducible assumption) ?_;cbv;refine⟨Zc,?_⟩)
    |(refine rwH xe w1 ?_;cbv;refine⟨Zc,?_⟩)
    |(refine rwH xe w2 ?_;cbv;refine⟨Zc,?_⟩)
    |(refine rwH xe w3 ?_;cbv;refine⟨Zc,?_⟩)
    |(refine rwH xe w4 ?_;cbv;refine⟨Zc,?_⟩)
    |(refine rwH (rT qInt) (by with_reducible assumption) ?_;cbv;refine⟨Zc,?_⟩)
    |(refine rwH (rT qInt) w1 ?_;cbv;refine⟨Zc,?_⟩)
    |(refine rwH (rT qInt) w2 ?_;cbv;refine⟨Zc,?_⟩)
    |(refine rwH (rT qInt) w3 ?_;cbv;refine⟨Zc,?_⟩)
    |(refine rwH (rT qInt) w4 ?_;cbv;refine⟨Zc,?_⟩)
    |(refine rwH (aM qInt qGOcc) (by with_reducible assumption) ?_;cbv;refine⟨Zc,?_⟩)
    |(refine rwH (aM qInt qGOcc) w1 ?_;cbv;refine⟨Zc,?_⟩)
    |(refine rwH (aM qInt qGOcc) w2 ?_;cbv;refine⟨Zc,?_⟩)
    |(refine rwH (aM qInt qGOcc) w3 ?_;cbv;refine⟨Zc,?_⟩)
    |(refine rwH (aM qInt qGOcc) w4 ?_;cbv;refine⟨Zc,?_⟩)
    |(refine rwH (mc qInt qGOcc) (by with_reducible assumption) ?_;cbv;refine⟨Zc,?_⟩)
    |(refine rwH (mc qInt qGOcc) w1 ?_;cbv;refine⟨Zc,?_⟩)
    |(refine rwH (mc qInt qGOcc) w2 ?_;cbv;refine⟨Zc,?_⟩)
    |(refine rwH (mc qInt qGOcc) w3 ?_;cbv;refine⟨Zc,?_⟩)
    |(refine rwH (mc qInt qGOcc) w4 ?_;cbv;refine⟨Zc,?_⟩)
    |(refine rwH (kn qGNodeS) (by with_reducible assumption) ?_;cbv;refine⟨Zc,?_⟩)
    |(refine rwH (kn qGNodeS) w1 ?_;cbv;refine⟨Zc,?_⟩)
    |(refine rwH (kn qGNodeS) w2 ?_;cbv;refine⟨Zc,?_⟩)
    |(refine rwH (kn qGNodeS) w3 ?_;cbv;refine⟨Zc,?_⟩)
    |(refine rwH (kn qGNodeS) w4 ?_;cbv;refine⟨Zc,?_⟩)
    |(refine rwH (oJ qGNode) (by with_reducible assumption) ?_;cbv;refine⟨Zc,?_⟩)
    |(refine rwH (oJ qGNode) w1 ?_;cbv;refine⟨Zc,?_⟩)
    |(refine rwH (oJ qGNode) w2 ?_;cbv;refine⟨Zc,?_⟩)
    |(refine rwH (oJ qGNode) w3 ?_;cbv;refine⟨Zc,?_⟩)
    |(refine rwH (oJ qGNode) w4 ?_;cbv;refine⟨Zc,?_⟩)
    |(refine rwH wY (by with_reducible assumption) ?_;cbv;refine⟨Zc,?_⟩)
    |(refine rwH wY w1 ?_;cbv;refine⟨Zc,?_⟩)
    |(refine rwH wY w2 ?_;cbv;refine⟨Zc,?_⟩)
    |(refine rwH wY w3 ?_;cbv;refine⟨Zc,?_⟩)
    |(refine rwH wY w4 ?_;cbv;refine⟨Zc,?_⟩)
    |(refine rwH (qy qInt) (by with_reducible assumption) ?_;cbv;refine⟨Zc,?_⟩)
    |(refine rwH (qy qInt) w1 ?_;cbv;refine⟨Zc,?_⟩)
    |(refine rwH (qy qInt) w2 ?_;cbv;refine⟨Zc,?_⟩)
    |(refine rwH (qy qInt) w3 ?_;cbv;refine⟨Zc,?_⟩)
    |(refine rwH (qy qInt) w4 ?_;cbv;refine⟨Zc,?_⟩)
    |(refine rwH (qr qInt) (by with_reducible assumption) ?_;cbv;refine⟨Zc,?_⟩)
    |(refine rwH (qr qInt) w1 ?_;cbv;refine⟨Zc,?_⟩)
    |(refine rwH (qr qInt) w2 ?_;cbv;refine⟨Zc,?_⟩)
    |(refine rwH (qr qInt) w3 ?_;cbv;refine⟨Zc,?_⟩)
    |(refine rwH (qr qInt) w4 ?_;cbv;refine⟨Zc,?_⟩)
    |(refine rwH (ql qGOcc) (by with_reducible assumption) ?_;cbv;refine⟨Zc,?_⟩)
    |(refine rwH (ql qGOcc) w1 ?_;cbv;refine⟨Zc,?_⟩)
    |(refine rwH (ql qGOcc) w2 ?_;cbv;refine⟨Zc,?_⟩)
    |(refine rwH (ql qGOcc) w3 ?_;cbv;refine⟨Zc,?_⟩)
    |(refine rwH (ql qGOcc) w4 ?_;cbv;refine⟨Zc,?_⟩)
    |(refine rwH si (by with_reducible assumption) ?_;cbv;refine⟨Zc,?_⟩)
    |(refine rwH si w1 ?_;cbv;refine⟨Zc,?_⟩)
    |(refine rwH si w2 ?_;cbv;refine⟨Zc,?_⟩)
    |(refine rwH si w3 ?_;cbv;refine⟨Zc,?_⟩)
    |(refine rwH si w4 ?_;cbv;refine⟨Zc,?_⟩)
    |(refine rwH (mO qGNode) (by with_reducible assumption) ?_;cbv;refine⟨Zc,?_⟩)
    |(refine rwH (mO qGNode) w1 ?_;cbv;refine⟨Zc,?_⟩)
    |(refine rwH (mO qGNode) w2 ?_;cbv;refine⟨Zc,?_⟩)
    |(refine rwH (mO qGNode) w3 ?_;cbv;refine⟨Zc,?_⟩)
    |(refine rwH (mO qGNode) w4 ?_;cbv;refine⟨Zc,?_⟩)
    |(refine rwH (tw qInt) (by with_reducible assumption) ?_;cbv;refine⟨Zc,?_⟩)
    |(refine rwH (tw qInt) w1 ?_;cbv;refine⟨Zc,?_⟩)
    |(refine rwH (tw qInt) w2 ?_;cbv;refine⟨Zc,?_⟩)
    |(refine rwH (tw qInt) w3 ?_;cbv;refine⟨Zc,?_⟩)
    |(refine rwH (tw qInt) w4 ?_;cbv;refine⟨Zc,?_⟩)
    |(refine rwH (wq qGEx) (by with_reducible assumption) ?_;cbv;refine⟨Zc,?_⟩)
    |(refine rwH (wq qGEx) w1 ?_;cbv;refine⟨Zc,?_⟩)
    |(refine rwH (wq qGEx) w2 ?_;cbv;refine⟨Zc,?_⟩)
    |(refine rwH (wq qGEx) w3 ?_;cbv;refine⟨Zc,?_⟩)
    |(refine rwH (wq qGEx) w4 ?_;cbv;refine⟨Zc,?_⟩)
    |(refine rwH (tt qGExO) (by with_reducible assumption) ?_;cbv;refine⟨Zc,?_⟩)
    |(refine rwH (tt qGExO) w1 ?_;cbv;refine⟨Zc,?_⟩)
    |(refine rwH (tt qGExO) w2 ?_;cbv;refine⟨Zc,?_⟩)
    |(refine rwH (tt qGExO) w3 ?_;cbv;refine⟨Zc,?_⟩)
    |(refine rwH (tt qGExO) w4 ?_;cbv;refine⟨Zc,?_⟩)
    |exact Jm
    |(cases hh;have hh:some _=some _:=hq3;cases hh;have hh:some _=some _:=hq2;cases hh;have hh:some _=some _:=hq1;refine hQ3 _ _ ?_;refine hQ2 _ _ ?_;refine hQ1 _ _ ?_;cbv)
    |(cases hh;have hh:some _=some _:=hq2;cases hh;have hh:some _=some _:=hq1;refine hQ2 _ _ ?_;refine hQ1 _ _ ?_;cbv)
    |(cases hh;have hh:some _=some _:=hq1;refine hQ1 _ _ ?_;cbv)
    |(have _g:=(by with_reducible exact hh:some _=some _);(first|exact Ec|(refine⟨0,?_⟩;cbv;exact Ec)|(refine⟨1,?_⟩;cbv;exact Ec)|(refine⟨3,?_⟩;cbv;exact Ec)|(refine⟨4,?_⟩;cbv;exact Ec)|(refine⟨5,?_⟩;cbv;exact Ec)|(refine⟨10,?_⟩;cbv;exact Ec)|(refine⟨12,?_⟩;cbv;exact Ec)|fail))
    |fail
  first|done|fail):g:=k
end Go.Proofs.YtlbnmldopjadoaaGreat
