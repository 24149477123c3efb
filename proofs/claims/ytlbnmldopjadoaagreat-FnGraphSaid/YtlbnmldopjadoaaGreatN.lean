/- How data stands for memory. -/
import Derived.Test.YtlbnmldopjadoaaGreatL
namespace Go.Proofs.YtlbnmldopjadoaaGreat
open Go Go.Vm
set_option linter.unusedSimpArgs false
def c_Iu8 (x:Int):List A:=[.lit (.int .u8 x)]
def mG (l:List Int):Vm.Rows:=l.map c_Iu8
theorem qH (l:List Int):mG l=l.map c_Iu8:=rfl
theorem DC (l:List Int):aI (mG l)=mG l:=by
  induction l with
  |nil=>rfl
  |cons x xs ih=>simp only[mG,mG,List.map_cons,aI] at ih⊢;rw[ih];simp[c_Iu8,c_Iu8,bG,fz]
def c_Int (x:Int):List A:=[iA x]
def gk (l:List Int):Vm.Rows:=l.map c_Int
theorem qB (l:List Int):gk l=l.map c_Int:=rfl
theorem lx (l:List Int):aI (gk l)=gk l:=by
  induction l with
  |nil=>rfl
  |cons x xs ih=>simp only[gk,gk,List.map_cons,aI] at ih⊢;rw[ih];simp[c_Int,c_Int,bG,fz]
theorem tP (l:List Int):eR (gk l)=true:=by
  induction l with
  |nil=>rfl
  |cons x xs ih=>simp only[gk,List.map_cons,eR] at ih⊢;rw[ih];simp[c_Int,gm,ownd]
mutual
def kD:GEx→List A
  |⟨a0,a1,a2,a3⟩=>[iA a0,iA a1,iA a2,.inl 4 (jj a3)]
def jj:List GEx→Vm.Rows
  |[]=>[]
  |x::xs=>kD x::jj xs
end
theorem mP:∀l:List GEx,jj l=l.map kD
  |[]=>rfl
  |x::xs=>by simp only[jj,List.map_cons,mP xs]
mutual
def c_GEx:GEx→List A
  |⟨a0,a1,a2,a3⟩=>[iA a0,iA a1,iA a2,.tree (jV a3)]
def jV:List GEx→Vm.Rows
  |[]=>[]
  |x::xs=>c_GEx x::jV xs
end
theorem l9:∀l:List GEx,jV l=l.map c_GEx
  |[]=>rfl
  |x::xs=>by simp only[jV,List.map_cons,l9 xs]
theorem yF:∀l:List GEx,aI (jV l)=jV l
  |[]=>by simp[jV,aI]
  |⟨a0,a1,a2,a3⟩::xs=>by simp[jV,c_GEx,aI,bG,fz,yF xs]
mutual
theorem C0:∀e:GEx,bG (kD e)=c_GEx e
  |⟨a0,a1,a2,a3⟩=>by simp[kD,c_GEx,bG,fz,rt]
theorem rt:∀l:List GEx,aI (jj l)=jV l
  |[]=>by simp[jj,jV,aI]
  |x::xs=>by simp[jj,jV,aI,C0 x,rt xs]
end
mutual
theorem Ae:∀e:GEx,gm (kD e)=true
  |⟨a0,a1,a2,a3⟩=>by simp[kD,gm,ownd,om]
theorem om:∀l:List GEx,eR (jj l)=true
  |[]=>by simp[jj,eR]
  |x::xs=>by simp[jj,eR,Ae x,om xs]
end
def c_GEv (x:GEv):List A:=[iA x.Sym,iA x.At,iA x.Val]
def rP (l:List GEv):Vm.Rows:=l.map c_GEv
theorem rn (l:List GEv):rP l=l.map c_GEv:=rfl
theorem pX (l:List GEv):aI (rP l)=rP l:=by
  induction l with
  |nil=>rfl
  |cons x xs ih=>simp only[rP,rP,List.map_cons,aI] at ih⊢;rw[ih];simp[c_GEv,c_GEv,bG,fz]
def c_GOcc (x:GOcc):List A:=[iA x.From,iA x.To,.tree (gk x.Ids)]
def db (l:List GOcc):Vm.Rows:=l.map c_GOcc
theorem fd (l:List GOcc):db l=l.map c_GOcc:=rfl
theorem sG (l:List GOcc):∀r∈db l,r.length=3:=by rw[fd];intro r hr;obtain⟨e,_,rfl⟩:=List.mem_map.1 hr;simp[c_GOcc]
theorem jc (l:List GOcc):aI (db l)=db l:=by
  induction l with
  |nil=>rfl
  |cons x xs ih=>simp only[db,db,List.map_cons,aI] at ih⊢;rw[ih];simp[c_GOcc,c_GOcc,bG,fz,lx]
def c_GNode (x:GNode):List A:=[iA x.Kind,iA x.Sym,iA x.N,.tree (gk x.Kids),.tree (db x.Pair.Left),.tree (db x.Pair.Right),.tree (db x.Span.Left),.tree (db x.Span.Mid),.tree (db x.Due),iA x.Many]
def j5 (l:List GNode):Vm.Rows:=l.map c_GNode
theorem lL (l:List GNode):j5 l=l.map c_GNode:=rfl
theorem uQ (l:List GNode):aI (j5 l)=j5 l:=by
  induction l with
  |nil=>rfl
  |cons x xs ih=>simp only[j5,j5,List.map_cons,aI] at ih⊢;rw[ih];simp[c_GNode,c_GNode,bG,fz,jc,lx]
def c_LGOcc (x:List GOcc):List A:=[.tree (db x)]
def m5 (l:List (List GOcc)):Vm.Rows:=l.map c_LGOcc
theorem oB (l:List (List GOcc)):m5 l=l.map c_LGOcc:=rfl
theorem BF (l:List (List GOcc)):aI (m5 l)=m5 l:=by
  induction l with
  |nil=>rfl
  |cons x xs ih=>simp only[m5,m5,List.map_cons,aI] at ih⊢;rw[ih];simp[c_LGOcc,c_LGOcc,bG,fz,jc]
def c_LInt (x:List Int):List A:=[.tree (gk x)]
def oJ (l:List (List Int)):Vm.Rows:=l.map c_LInt
theorem pP (l:List (List Int)):oJ l=l.map c_LInt:=rfl
theorem wE (l:List (List Int)):aI (oJ l)=oJ l:=by
  induction l with
  |nil=>rfl
  |cons x xs ih=>simp only[oJ,oJ,List.map_cons,aI] at ih⊢;rw[ih];simp[c_LInt,c_LInt,bG,fz,lx]
def c_GOccO (x:GOcc):List A:=[iA x.From,iA x.To,.inl 1 (gk x.Ids)]
def mX (l:List GOcc):Vm.Rows:=l.map c_GOccO
theorem jG (l:List GOcc):mX l=l.map c_GOccO:=rfl
theorem pB (l:List GOcc):aI (mX l)=db l:=by
  induction l with
  |nil=>rfl
  |cons x xs ih=>simp only[mX,db,List.map_cons,aI] at ih⊢;rw[ih];simp[c_GOccO,c_GOcc,bG,fz,lx]
theorem kG (l:List GOcc):eR (mX l)=true:=by
  induction l with
  |nil=>rfl
  |cons x xs ih=>simp only[mX,List.map_cons,eR] at ih⊢;rw[ih];simp[c_GOccO,gm,ownd,tP]
def c_Str (x:ByteArray):List A:=[.lit (.string x)]
def rX (l:List ByteArray):Vm.Rows:=l.map c_Str
theorem rz (l:List ByteArray):rX l=l.map c_Str:=rfl
theorem yT (l:List ByteArray):aI (rX l)=rX l:=by
  induction l with
  |nil=>rfl
  |cons x xs ih=>simp only[rX,rX,List.map_cons,aI] at ih⊢;rw[ih];simp[c_Str,c_Str,bG,fz]
def c_GNodeS (x:GNode):List A:=[iA x.Kind,iA x.Sym,iA x.N,.inl 1 (gk x.Kids),.inl 3 (db x.Pair.Left),.inl 3 (db x.Pair.Right),.inl 3 (db x.Span.Left),.inl 3 (db x.Span.Mid),.inl 3 (db x.Due),iA x.Many]
def pC (l:List GNode):Vm.Rows:=l.map c_GNodeS
theorem qI (l:List GNode):pC l=l.map c_GNodeS:=rfl
theorem zO (l:List GNode):aI (pC l)=j5 l:=by
  induction l with
  |nil=>rfl
  |cons x xs ih=>simp only[pC,j5,List.map_cons,aI] at ih⊢;rw[ih];simp[c_GNodeS,c_GNode,bG,fz,jc,lx]
def c_Bool (x:Bool):List A:=[.lit (.bool x)]
def l8 (l:List Bool):Vm.Rows:=l.map c_Bool
theorem pj (l:List Bool):l8 l=l.map c_Bool:=rfl
theorem BY (l:List Bool):aI (l8 l)=l8 l:=by
  induction l with
  |nil=>rfl
  |cons x xs ih=>simp only[l8,l8,List.map_cons,aI] at ih⊢;rw[ih];simp[c_Bool,c_Bool,bG,fz]
theorem oC (l:List Bool):eR (l8 l)=true:=by
  induction l with
  |nil=>rfl
  |cons x xs ih=>simp only[l8,List.map_cons,eR] at ih⊢;rw[ih];simp[c_Bool,gm,ownd]
@[simp] theorem r_Iu8_fzm (l:List Int):aI (l.map c_Iu8)=l.map c_Iu8:=by rw[←qH,DC,qH]
@[simp] theorem r_Int_fzm (l:List Int):aI (l.map c_Int)=l.map c_Int:=by rw[←qB,lx,qB]
@[simp] theorem r_GExO_fzm (l:List GEx):aI (l.map kD)=l.map c_GEx:=by rw[←mP,rt,l9]
@[simp] theorem r_GEx_fzm (l:List GEx):aI (l.map c_GEx)=l.map c_GEx:=by rw[←l9,yF,l9]
@[simp] theorem r_GEv_fzm (l:List GEv):aI (l.map c_GEv)=l.map c_GEv:=by rw[←rn,pX,rn]
@[simp] theorem r_GOcc_fzm (l:List GOcc):aI (l.map c_GOcc)=l.map c_GOcc:=by rw[←fd,jc,fd]
@[simp] theorem r_GNode_fzm (l:List GNode):aI (l.map c_GNode)=l.map c_GNode:=by rw[←lL,uQ,lL]
@[simp] theorem r_LGOcc_fzm (l:List (List GOcc)):aI (l.map c_LGOcc)=l.map c_LGOcc:=by rw[←oB,BF,oB]
@[simp] theorem r_LInt_fzm (l:List (List Int)):aI (l.map c_LInt)=l.map c_LInt:=by rw[←pP,wE,pP]
@[simp] theorem r_GOccO_fzm (l:List GOcc):aI (l.map c_GOccO)=l.map c_GOcc:=by rw[←jG,pB,fd]
@[simp] theorem r_Str_fzm (l:List ByteArray):aI (l.map c_Str)=l.map c_Str:=by rw[←rz,yT,rz]
@[simp] theorem FK (l:List GNode):aI (l.map c_GNodeS)=l.map c_GNode:=by rw[←qI,zO,lL]
@[simp] theorem r_Bool_fzm (l:List Bool):aI (l.map c_Bool)=l.map c_Bool:=by rw[←pj,BY,pj]
attribute [simp] c_Iu8 qH c_Int qB kD mP c_GEx l9 c_GEv rn c_GOcc fd c_GNode lL c_LGOcc oB c_LInt pP c_GOccO jG c_Str rz c_GNodeS qI c_Bool pj
/-- the encoders, gd names -/
inductive EQ:(List Int→Vm.Rows)→(List Int→Vm.Rows)→(List GEx→Vm.Rows)→(List GEx→Vm.Rows)→(List GEv→Vm.Rows)→(List GOcc→Vm.Rows)→(List GNode→Vm.Rows)→(List (List GOcc)→Vm.Rows)→(List (List Int)→Vm.Rows)→(List GOcc→Vm.Rows)→(List ByteArray→Vm.Rows)→(List GNode→Vm.Rows)→(List Bool→Vm.Rows)→Prop where
  |mk:EQ mG gk jj jV rP db j5 m5 oJ mX rX pC l8
end Go.Proofs.YtlbnmldopjadoaaGreat
