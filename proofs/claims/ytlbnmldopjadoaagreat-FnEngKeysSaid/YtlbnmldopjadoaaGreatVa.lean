/- A small evaluator over the code of a program, and that it is sound, first part. -/
import Derived.Calls
import Derived.Laws.World
import Derived.Laws.Sem
import Derived.Laws.Entries
set_option linter.unusedSimpArgs false
set_option linter.unusedVariables false
/- The abstract values, states and operations of a small evaluator over the model's code. -/
namespace Go.Vm
theorem qom {c:Prop} (h:c:=by omega):c:=h
theorem qsc (n:Nat) (h:0<n:=by omega):∃m,n=m+1:=⟨n-1,by omega⟩
abbrev qzb:=@Option.bind_some
abbrev qzc:=@List.getElem?_eq_getElem
abbrev qzd:=@Int.toNat_natCast
abbrev qze:=@List.getElem_mem
abbrev qzf:=@Bool.and_eq_true
abbrev qzg:=@List.length_append
abbrev qzh:=@Option.some.injEq
abbrev qzi:=@Nat.le_refl
abbrev qzj:=@List.drop_eq_getElem_cons
abbrev qzk:=@Bool.true_and
abbrev qzl:=@List.append_assoc
abbrev qzm:=@List.length_cons
abbrev qzn:=@List.drop_eq_nil_of_le
abbrev qzo:=@List.mem_cons
abbrev qzp:=@Nat.mul_le_mul_right
abbrev qzq:=@List.length_singleton
abbrev qzr:=@Array.getD_eq_getD_getElem?
abbrev qzs:=@List.getElem?_cons_zero
abbrev qzt:=@List.getD_eq_getElem?_getD
abbrev qzu:=@List.getElem?_append_right
abbrev qzv:=@List.mem_cons_of_mem
abbrev qzw:=@Bool.false_eq_true
abbrev qzx:=@List.mem_cons_self
abbrev qzy:=@List.getElem_cons_zero
abbrev qzz:=@Nat.le_trans
abbrev qzA:=@List.eq_nil_of_length_eq_zero
abbrev qzB:=@List.drop_zero
abbrev qzC:=@List.getElem?_map
abbrev qzD:=@List.take_of_length_le
abbrev qzE:=@List.getElem_cons_succ
abbrev qzF:=@List.getElem?_append_left
abbrev qzG:=@List.map_cons
abbrev qzH:=@List.cons_append
abbrev qzI:=@List.mem_of_getElem?
abbrev qzJ:=@Nat.add_mul
abbrev qzK:=@List.all_cons
abbrev qzL:=@Option.map_some
abbrev qzM:=@Nat.lt_or_ge
abbrev qzN:=@List.all_eq_true
abbrev qzO:=@List.nil_append
abbrev qzP:=@Bool.eq_iff_iff
abbrev qzQ:=@Option.bind_assoc
abbrev qzR:=@List.getElem?_eq_none
abbrev qzS:=@List.getLast?_eq_getElem?
abbrev qzT:=@List.append_nil
abbrev qzU:=@List.length_drop
abbrev qzV:=@Nat.sub_self
abbrev qzW:=@Nat.eq_of_beq_eq_true
abbrev qzX:=@List.mem_append_left
abbrev qzY:=@Option.map_eq_some_iff
abbrev qzZ:=@List.length_take
abbrev rY:=@List.getElem?_set_self
abbrev sv:=@Array.getElem?_toList
abbrev ox:=@List.foldl_cons
abbrev tn:=@List.mem_of_mem_take
abbrev rb:=@List.flatten_cons
abbrev pQ:=@Option.some.inj
abbrev vI:=@List.length_filter_le
abbrev sd:=@Nat.lt_of_lt_of_le
abbrev np:=@List.set_set
abbrev oM:=@Prod.mk.injEq
abbrev ml:=@Int.le_refl
abbrev oc:=@Bool.false_or
abbrev vj:=@List.mem_of_mem_drop
abbrev uK:=@Nat.pow_le_pow_right
abbrev yz:=@List.getElem?_cons_succ
abbrev tg:=@Bool.not_eq_true'
abbrev rP:=@List.range'_succ
abbrev sP:=@List.not_mem_nil
abbrev ya:=@List.mem_append_right
abbrev pC:=@List.map_nil
abbrev sW:=@Bool.or_eq_true
abbrev xA:=@List.getElem?_set_ne
abbrev pN:=@Nat.succ_mul
abbrev xp:=@List.takeWhile_cons
abbrev yk:=@List.length_reverse
abbrev vo:=@Option.getD_some
abbrev AP:=@Array.getElem?_eq_none
abbrev qP:=@Nat.zero_add
abbrev yx:=@Nat.eq_zero_or_pos
abbrev ym:=@Bool.not_eq_false'
abbrev u9:=@List.length_nil
abbrev tq:=@Nat.add_assoc
abbrev xJ:=@List.take_add_one
abbrev Bf:=@List.mem_of_getLast?
abbrev qV:=@List.map_id
abbrev vm:=@List.take_zero

abbrev Key:=Nat×Nat

inductive A where
 |lit (v:Value)
 |emp
 |tree (rows:List (List A))
 |inl (k:Nat) (rows:List (List A))
 |obox (cells:List A)
 |optr (k:Nat) (rows:List (List A)) (i:Nat)
 |ref (κ:Key) (g i n:Nat)
 |mptr (κ:Key) (g i off:Nat)
 |iptr (row:List A) (off:Nat)
 |agg (cs:List A)
 |tup (vs:List A)
 |clo (f:FuncId) (caps:List A)
 |hole
abbrev Rows:=List (List A)

inductive HN where
 |dead (g:Nat)
 |box (g:Nat) (cells:List A)
 |arr (g k:Nat) (rows:Rows)
 |opn (g k:Nat) (rows:Rows) (i:Nat) (row:List A)
 |fbox (g:Nat) (cells:List A)
 |farr (g k:Nat) (rows:Rows)

def HN.gen:HN→Nat
 | .dead g| .box g _| .arr g _ _| .opn g _ _ _ _| .fbox g _| .farr g _ _=>g

structure St where
 slots:List (Nat×A)
 heap:List (Key×HN)

def lkS:List (Nat×A)→Nat→A
 |[],_=>.hole
 |(u,a)::l,t=>if t=u then a else lkS l t
def lkN:List (Key×HN)→Nat→Nat→HN
 |[],_,_=>.dead 0
 |((u,v),n)::l,a,b=>if a=u then(if b=v then n else lkN l a b) else lkN l a b

inductive W where
 |s (t:Nat) (a:A)
 |n (κ:Key) (h:HN)

def St.upd1 (σ:St):W→St
 | .s t a=>{ σ with slots:=(t,a)::σ.slots }
 | .n κ h=>{ σ with heap:=(κ,h)::σ.heap }
def St.upd (σ:St):List W→St
 |[]=>σ
 |w::ws=>(σ.upd1 w).upd ws

inductive Pg:Type 1 where
 |fail
 |done (ws:List W)
 |gs (t:Nat) (f:A→Pg)
 |gn (κ:Key) (f:HN→Pg)
 |need (φ:Prop) (p:Pg)
 |ex (α:Type) (f:α→Pg)
 |br (b:Bool) (p q:Pg)
 |al (φ:Bool→Prop) (f:Bool→Pg)
 |wr (ws:List W) (p:Pg)
 |opq (Φ:St→(List W→Prop)→Prop)

def Pg.holds (σ:St) (K:List W→Prop):Pg→Prop
 | .fail=>False
 | .done ws=>K ws
 | .gs t f=>(f (lkS σ.slots t)).holds σ K
 | .gn κ f=>(f (lkN σ.heap κ.1 κ.2)).holds σ K
 | .need φ p=>φ∧p.holds σ K
 | .ex α f=>∃x:α,(f x).holds σ K
 | .br b p q=>match b with
  |true=>p.holds σ K
  |false=>q.holds σ K
 | .al φ f=>∀b:Bool,φ b→(f b).holds σ K
 | .wr ws p=>p.holds (σ.upd ws) fun ws2=>K (ws++ws2)
 | .opq Φ=>Φ σ K

/-- What is known of the program's types. -/
inductive TD where
 |int (k:IntKind)|bool|str|slice (e:Nat)|ptr (e:Nat)|struct (fs:List (Nat×Nat))|other
structure TI where
 td:TD
 size:Nat
 bytes:Nat
 zero:List A
 flat:Bool
inductive Mode where
 |val|own|skip|raw
structure TE where
 info:Nat→TI
 sig:Nat→List Mode
 gap:List Nat
 inl:List Nat
 ro:List Nat

inductive Ex where
 |normal
 |exit (id:Nat)
 |ret
/-- calls that are followed into the function's code; those of them that change nothing -/
structure InT where
 go:Option Nat→FuncId→List A→St→(List W→Prop)→Prop
 ro:FuncId→List A→List (Key×HN)→A→Prop
/-- What stands still while code is evaluated: calls, loops, and the functions of numbers and lists. -/
structure Ctx where
 Fn:FuncId→List A→List A→A→Prop
 LW:Code→(Ex→St→Prop)→St→Prop
 IN:InT
 len:Rows→Nat
 cast:Nat→Int
 toNat:Int→Nat
 wrap:IntKind→Int→Int
 add:Int→Int→Int
 sub:Int→Int→Int
 mul:Int→Int→Int
 bin:BinOp→IntKind→Int→Int→Int
 lt:Int→Int→Bool
 eq:Int→Int→Bool
 At:Rows→Nat→List A→Prop
 set:Rows→Nat→List A→Rows
 part:Rows→Nat→Nat→Rows
 app:Rows→Rows→Rows
 fz:Rows→Rows
 rep:Nat→List A→Rows
 nadd:Nat→Nat→Nat
 nmax:Nat→Nat→Nat
 ssize:ByteArray→Nat
 sext:ByteArray→Nat→Nat→ByteArray
 sget:ByteArray→Nat→Int
 scat:ByteArray→ByteArray→ByteArray
 seq:ByteArray→ByteArray→Bool
 slt:ByteArray→ByteArray→Bool
 Wide:Rows→Nat→Prop
 Flat:Rows→Prop
 Ones:Rows→Prop
 Room:Nat→Nat→Prop

def qX:TD→Bool
 | .struct _=>true
 |_=>false

def iK:TD→Bool
 | .other=>true
 |_=>false
def oW:TD→Bool
 | .str=>true
 |_=>false
def iz:TD→Bool
 | .slice _=>true
 |_=>false
def D3:TD→Bool
 | .ptr _=>true
 |_=>false
def put (d:Option Nat) (a:A):List W:=match d with
 |some t=>[.s t a]
 |none=>[]

/-- a constant -/
def cst:Value→A
 | .agg cs=>.agg (cs.toList.map .lit)
 |v=>.lit v
def opd (x:Operand) (f:A→Pg):Pg:=match x with
 | .tmp t=>if Nat.blt t 1000000 then .gs t f else .fail
 | .const v=>f (cst v)
 | .func g=>f (.clo g [])
 | .global _=>.fail

def opds:List Operand→(List A→Pg)→Pg
 |[],f=>f []
 |x::xs,f=>opd x fun a=>opds xs fun as=>f (a::as)

/-- a value that tM one cell -/
def fV:A→Bool
 | .lit v=>match v with
  | .agg _| .tuple _=>false
  |_=>true
 | .agg _| .tup _| .hole=>false
 |_=>true
def cellsOf:A→Option (List A)
 | .agg cs=>if cs.all fV then some cs else none
 |a=>if fV a then some [a] else none

/-- n cells from place o on. -/
def cut:Nat→Nat→List A→Option (List A)
 |_,0,_=>some []
 |0,n+1,c::cs=>(cut 0 n cs).map (c::·)
 |o+1,n+1,_::cs=>cut o (n+1) cs
 |_,_+1,[]=>none
/-- the cells vs laid over place o on. -/
def lay:Nat→List A→List A→Option (List A)
 |_,[],cs=>some cs
 |0,v::vs,_::cs=>(lay 0 vs cs).map (v::·)
 |o+1,v::vs,c::cs=>(lay o (v::vs) cs).map (c::·)
 |_,_::_,[]=>none

mutual
def fz:A→A
 | .inl _ rows=>.tree (aA rows)
 | .agg cs=>.agg (bv cs)
 | .tup cs=>.tup (bv cs)
 | .lit v=>.lit v
 | .emp=>.emp
 | .tree rows=>.tree rows
 | .obox _=>.hole
 | .optr _ _ _=>.hole
 | .ref κ g i n=>.ref κ g i n
 | .mptr κ g i o=>.mptr κ g i o
 | .iptr r o=>.iptr r o
 | .clo f c=>.clo f c
 | .hole=>.hole
def bv:List A→List A
 |[]=>[]
 |c::cs=>fz c::bv cs
def aA:Rows→Rows
 |[]=>[]
 |r::rs=>bv r::aA rs
end

def fT (td:TD) (cs:List A):Option A:=
 if qX td then some (.agg cs) else match cs with
  |[c]=>some c
  |_=>none

/-- is the node what it was when the reference was made? -/
def DC (g:Nat):HN→Bool
 | .dead _=>false
 | .box g' _| .arr g' _ _| .opn g' _ _ _ _| .fbox g' _| .farr g' _ _=>g==g'
def live (κ:Key) (g:Nat) (p:Pg):Pg:=.gn κ fun h=>if DC g h then p else .fail
/-- a cell that owns nothing -/
def plain:A→Bool
 | .lit _| .emp| .tree _| .ref .. | .mptr .. | .iptr .. | .clo .. | .hole=>true
 |_=>false
/-- the result of a load: owned slices in it become nodes of their own (d: the slot; j: the next number), and the cells that are left iM. -/
def gS (C:Ctx) (d:Nat):Nat→List A→(List W→List A→Pg)→Pg
 |_,[],f=>f [] []
 |j,.inl k rows::cs,f=>.gn (d,j) fun h=>gS C d (j+1) cs fun ws cs'=>
   f (.n (d,j) (.arr (h.gen+1) k rows)::ws) (.ref (d,j) (h.gen+1) 0 (C.len rows)::cs')
 |j,c::cs,f=>if plain c then gS C d j cs fun ws cs'=>f ws (c::cs') else .fail

def oo {α:Type} (x:Option α) (f:α→Pg):Pg:=match x with
 |some a=>f a
 |none=>.fail

def B8 (E:TE) (C:Ctx) (d:Option Nat) (t:Nat):A→Pg
 | .iptr row off=>oo (cut off (E.info t).size row) fun cs=>oo (fT (E.info t).td cs) fun v=>.done (put d v)
 | .mptr κ g i off=>.gn κ fun h=>match h with
  | .fbox g' cells=>if g=g'∧i=0 then(oo (cut off (E.info t).size cells) fun cs=>oo (fT (E.info t).td cs) fun v=>.done (put d v)) else .fail
  | .farr g' _ rows=>if g=g' then(.ex (List A) fun row=>.need (C.At rows i row) <| oo (cut off (E.info t).size row) fun cs=>oo (fT (E.info t).td cs) fun v=>.done (put d v)) else .fail
  | .box g' cells=>if g=g'∧i=0 then(oo (cut off (E.info t).size cells) fun cs=>
    if cs.all plain then oo (fT (E.info t).td cs) fun v=>.done (put d v)
    else oo d fun d'=>if κ.1=d' then .fail else gS C d' 0 cs fun ws cs'=>oo (lay off cs' cells) fun cells'=>oo (fT (E.info t).td cs') fun v=>
     .done (.n κ (.box g' cells')::ws++[.s d' v])) else .fail
  | .arr g' k rows=>if g=g' then(.ex (List A) fun row=>.need (C.At rows i row) <| oo (cut off (E.info t).size row) fun cs=>
    if cs.all plain then oo (fT (E.info t).td cs) fun v=>.done (put d v)
    else oo d fun d'=>if κ.1=d' then .fail else gS C d' 0 cs fun ws cs'=>oo (lay off cs' row) fun row'=>oo (fT (E.info t).td cs') fun v=>
     .done (.n κ (.opn g' k rows i row')::ws++[.s d' v])) else .fail
  | .opn g' k rows j row=>if g=g' then .need (i=j) <| oo (cut off (E.info t).size row) fun cs=>
    if cs.all plain then oo (fT (E.info t).td cs) fun v=>.done (put d v)
    else oo d fun d'=>if κ.1=d' then .fail else gS C d' 0 cs fun ws cs'=>oo (lay off cs' row) fun row'=>oo (fT (E.info t).td cs') fun v=>
     .done (.n κ (.opn g' k rows i row')::ws++[.s d' v]) else .fail
  | .dead _=>.fail
 |_=>.fail

def kF (κ:Key):List Key→Bool
 |[]=>false
 |x::l=>if κ.1=x.1 then(if κ.2=x.2 then true else kF κ l) else kF κ l

/-- a nil slice that is laid into cells: an empty list that stands, or one's own -/
def xY:Option Nat→A
 |none=>.tree []
 |some k=>.inl k []
def wi (v:Value) (f:A→Pg):Pg:=match v with
 | .slice none 0 0=>.ex (Option Nat) fun o=>f (xY o)
 |v=>f (.lit v)
/-- what is laid into an array's cells: refs take what they own with them. -/
def cV (C:Ctx):List Key→List A→(List Key→List W→List A→Pg)→Pg
 |tk,[],f=>f tk [] []
 |tk,.ref κ g i n::cs,f=>if kF κ tk then .fail else .gn κ fun h=>match h with
  | .arr g' k rows=>if g=g'∧i=0 then .need (n=C.len rows) (cV C (κ::tk) cs fun tk ws cs'=>f tk (.n κ (.dead g')::ws) (.inl k rows::cs')) else .fail
  | .farr g' _ rows=>if g=g'∧i=0 then .need (n=C.len rows) (cV C tk cs fun tk ws cs'=>f tk ws (.tree rows::cs')) else .fail
  |_=>.fail
 |tk,.lit v::cs,f=>wi v fun c=>cV C tk cs fun tk ws cs'=>f tk ws (c::cs')
 |tk,.tree r::cs,f=>cV C tk cs fun tk ws cs'=>f tk ws (.tree r::cs')
 |tk,.emp::cs,f=>cV C tk cs fun tk ws cs'=>f tk ws (.tree []::cs')
 |_,_::_,_=>.fail

def xl (E:TE) (C:Ctx) (t:Nat) (a v:A):Pg:=match a with
 | .mptr κ g i off=>oo (cellsOf v) fun vs=>if vs.length=(E.info t).size∧vs.isEmpty=false then .gn κ fun h=>match h with
  | .box g' cells=>if g=g'∧i=0 then(oo (lay off vs cells) fun cells'=>.done [.n κ (.box g' cells')]) else .fail
  | .arr g' k rows=>if g=g' then(.ex (List A) fun row=>.need (C.At rows i row) <| cV C [κ] vs fun _ ws cs=>oo (lay off cs row) fun row'=>
    .done (.n κ (.arr g' k (C.set rows i row'))::ws)) else .fail
  | .opn g' k rows j row=>if g=g' then .need (i=j) <| oo (lay off vs row) fun row'=>.done [.n κ (.opn g' k rows j row')] else .fail
  |_=>.fail
  else .fail
 |_=>.fail
/-- a row that was opened is shut: what its refs own is taken in. -/
def rW (C:Ctx) (κ:Key):Pg:=.gn κ fun h=>match h with
 | .opn g k rows i row=>cV C [κ] row fun _ ws row'=>.done (.n κ (.arr g k (C.set rows i row'))::ws)
 |_=>.fail

def xU (E:TE) (d:Option Nat) (s f:Nat) (a:A):Pg:=match(E.info s).td with
 | .struct fs=>oo fs[f]? fun(o,u)=>if(E.info u).size=0 then .fail else match a with
  | .mptr κ g i off=>live κ g (.done (put d (.mptr κ g i (off+o))))
  | .iptr row off=>.done (put d (.iptr row (off+o)))
  |_=>.fail
 |_=>.fail

def xL (E:TE) (C:Ctx) (d:Option Nat) (t:Nat) (x i:A):Pg:=match(E.info t).td,i with
 | .slice e,.lit (.int _ n)=>match x with
  | .tree rows=>.ex (List A) fun row=>.need (C.lt n 0=false) <| .need (C.At rows (C.toNat n) row) <|
    if row.length=(E.info e).size∧(E.info e).size≠0 then .done (put d (.iptr row 0)) else .fail
  | .ref κ g j m=>.gn κ fun h=>match h with
   | .arr g' k _| .farr g' k _| .opn g' k _ _ _=>if g=g'∧k=(E.info e).size∧(E.info e).size≠0 then .need (C.lt n 0=false) <| .need (C.lt n (C.cast m)=true) (.done (put d (.mptr κ g (C.nadd j (C.toNat n)) 0))) else .fail
   |_=>.fail
  |_=>.fail
 |_,_=>.fail

def pw (E:TE) (t:Nat) (d:Option Nat) (cells:Option (List A)):Pg:=oo d fun d'=>oo cells fun cells=>if cells.length=(E.info t).size∧(E.info t).size≠0 then .gn (d',0) fun h=>
  .done [.n (d',0) (.box (h.gen+1) cells),.s d' (.mptr (d',0) (h.gen+1) 0 0)] else .fail

def tM (place:Nat→Option (Nat×Nat)):List (Nat×A)→List A→Option (List A)
 |[],cells=>some cells
 |(i,v)::rest,cells=>match place i with
  |some (off,size)=>(cellsOf v).bind fun vs=>if vs.length=size∧size≠0 then(lay off vs cells).bind (tM place rest) else none
  |none=>none

def tE:List (Nat×Operand)→(List (Nat×A)→Pg)→Pg
 |[],f=>f []
 |(i,x)::xs,f=>opd x fun a=>tE xs fun as=>f ((i,a)::as)

def xP (E:TE) (d:Option Nat) (t:Nat) (ps:List (Nat×Operand)):Pg:=match(E.info t).td with
 | .struct fs=>if fs.any fun(_,u)=>(E.info u).size==0 then .fail else tE ps fun vs=>oo (tM (fun i=>(fs[i]?).map fun(o,u)=>(o,(E.info u).size)) vs (E.info t).zero) fun cells=>.done (put d (.agg cells))
 |_=>.fail

/-- the rows of a slice that is written out: zero rows, with the parts laid in. -/
def tH (C:Ctx):List Key→List (Nat×A)→(List W→List (Nat×List A)→Pg)→Pg
 |_,[],f=>f [] []
 |tk,(i,v)::rest,f=>oo (cellsOf v) fun vs=>cV C tk vs fun tk ws cs=>tH C tk rest fun ws' rs=>f (ws++ws') ((i,cs)::rs)
def oH (size:Nat):List (Nat×List A)→Rows→Option Rows
 |[],rows=>some rows
 |(i,r)::rest,rows=>if r.length=size∧i<rows.length then oH size rest (rows.set i r) else none
def oN (E:TE) (C:Ctx) (d:Option Nat) (t n:Nat) (ps:List (Nat×Operand)):Pg:=match(E.info t).td with
 | .slice e=>if n * (E.info e).size>16777216∨(E.info e).size=0 then .fail else tE ps fun vs=>tH C [] vs fun ws rs=>oo (oH (E.info e).size rs (List.replicate n (E.info e).zero)) fun rows=>
   oo d fun d'=>.gn (d',0) fun h=>.done (ws++[.n (d',0) (.arr (h.gen+1) (E.info e).size rows),.s d' (.ref (d',0) (h.gen+1) 0 n)])
 |_=>.fail

def pA (E:TE) (C:Ctx) (d:Option Nat) (t:Nat) (l c:A):Pg:=match(E.info t).td,l,c with
 | .slice e,.lit (.int .i64 n),.lit (.int .i64 m)=>if(E.info e).size=0∨(E.info e).bytes=0 then .fail else .need (C.lt n 0=false∧C.lt m n=false∧C.Room (C.toNat m) (E.info e).bytes) <| oo d fun d'=>.gn (d',0) fun h=>
   .done [.n (d',0) (.arr (h.gen+1) (E.info e).size (C.rep (C.toNat n) (E.info e).zero)),.s d' (.ref (d',0) (h.gen+1) 0 (C.toNat n))]
 |_,_,_=>.fail

def k9 (x:Option A) (dflt:Int) (f:Int→Pg):Pg:=match x with
 |none=>f dflt
 |some (.lit (.int _ n))=>f n
 |_=>.fail
def opdo (x:Option Operand) (f:Option A→Pg):Pg:=match x with
 |none=>f none
 |some o=>opd o fun a=>f (some a)
def yl (E:TE) (C:Ctx) (d:Option Nat) (t:Nat) (x:A) (lo hi mx:Option A):Pg:=match(E.info t).td,x,mx with
 | .str,.lit (.string s),none=>k9 lo 0 fun l=>k9 hi (C.cast (C.ssize s)) fun h=>.need (C.lt l 0=false∧C.lt h l=false∧C.lt (C.cast (C.ssize s)) h=false) (.done (put d (.lit (.string (C.sext s (C.toNat l) (C.toNat h))))))
 | .slice e,.tree rows,none=>if(E.info e).size=0 then .fail else k9 lo 0 fun l=>k9 hi (C.cast (C.len rows)) fun h=>.need (C.lt l 0=false∧C.lt h l=false∧C.lt (C.cast (C.len rows)) h=false∧C.Wide rows (E.info e).size) (.done (put d (.tree (C.part rows (C.toNat l) (C.toNat (C.sub h l))))))
 | .slice e,.ref κ g i n,none=>k9 lo 0 fun l=>k9 hi (C.cast n) fun h=>.need (C.lt l 0=false∧C.lt h l=false∧C.lt (C.cast n) h=false) (.gn κ fun nd=>match nd with
  | .arr g' k _| .farr g' k _=>if g=g'∧k=(E.info e).size∧(E.info e).size≠0 then .done (put d (.ref κ g (C.nadd i (C.toNat l)) (C.toNat (C.sub h l)))) else .fail
  |_=>.fail)
 | .slice e,.tree _,some (.lit (.int _ m))=>if(E.info e).size=0 then .fail else k9 lo 0 fun l=>k9 hi 1 fun h=>.need (l=0∧h=0∧m=0) (.done (put d .emp))
 |_,_,_=>.fail

def qt (C:Ctx) (k:IntKind) (n:Int):A:=.lit (.int k (C.wrap k n))
/-- are two structs of numbers equal? -/
def lx (C:Ctx):List A→List A→Option Bool
 |[],[]=>some true
 | .lit (.int k a)::xs,.lit (.int k' b)::ys=>if k=k' then(match lx C xs ys with
  |some r=>some (cond (C.eq a b) r false)
  |none=>none) else none
 |_,_=>none
def qE (d:Option Nat) (op:BinOp) (b:Bool):Pg:=match op with
 | .eql=>.done (put d (.lit (.bool b)))
 | .neq=>.done (put d (.lit (.bool (!b))))
 |_=>.fail
def BQ (E:TE) (C:Ctx) (d:Option Nat) (op:BinOp) (t:Nat) (x y:A):Pg:=match y with
 | .agg ys=>match x with
  | .agg xs=>if(E.info t).flat then(if xs.length=3∧ys.length=3 then oo (lx C xs ys) fun b=>qE d op b else .fail) else .fail
  |_=>.fail
 | .lit (.slice none 0 0)=>match x with
  | .tree rows=>if iz (E.info t).td then .al (fun b=>b=true→C.len rows=0) fun b=>qE d op b else .fail
  |_=>.fail
 | .lit (.pointer none)=>if D3 (E.info t).td then(match x with
  | .mptr κ g _ _=>live κ g (qE d op false)
  | .iptr _ _=>qE d op false
  | .lit (.pointer none)=>qE d op true
  |_=>.fail) else .fail
 |_=>.fail
def Ef (E:TE) (C:Ctx) (d:Option Nat) (op:BinOp) (t:Nat):A→A→Pg
 | .lit (.int k a),.lit (.int k' b)=>match op with
  | .shl=>.need (C.lt b 0=false) (.done (put d (.lit (.int k (C.bin .shl k a b)))))
  | .shr=>.need (C.lt b 0=false) (.done (put d (.lit (.int k (C.bin .shr k a b)))))
  |_=>if k=k' then match op with
   | .add=>.done (put d (qt C k (C.add a b)))
   | .sub=>.done (put d (qt C k (C.sub a b)))
   | .mul=>.done (put d (qt C k (C.mul a b)))
   | .quo=>.need (b≠0) (.done (put d (.lit (.int k (C.bin .quo k a b)))))
   | .rem=>.need (b≠0) (.done (put d (.lit (.int k (C.bin .rem k a b)))))
   | .xor=>.done (put d (.lit (.int k (C.bin .xor k a b))))
   | .and=>.done (put d (.lit (.int k (C.bin .and k a b))))
   | .or=>.done (put d (.lit (.int k (C.bin .or k a b))))
   | .eql=>.done (put d (.lit (.bool (C.eq a b))))
   | .neq=>.done (put d (.lit (.bool (!(C.eq a b)))))
   | .lss=>.done (put d (.lit (.bool (C.lt a b))))
   | .leq=>.done (put d (.lit (.bool (!(C.lt b a)))))
   | .gtr=>.done (put d (.lit (.bool (C.lt b a))))
   | .geq=>.done (put d (.lit (.bool (!(C.lt a b)))))
   |_=>.fail else .fail
 | .lit (.bool a),.lit (.bool b)=>match(E.info t).td,op with
  | .bool,.eql=>.done (put d (.lit (.bool (a==b))))
  | .bool,.neq=>.done (put d (.lit (.bool (!(a==b)))))
  |_,_=>.fail
 | .lit (.string a),.lit (.string b)=>match op with
  | .eql=>.done (put d (.lit (.bool (C.seq a b))))
  | .neq=>.done (put d (.lit (.bool (!(C.seq a b)))))
  | .lss=>.done (put d (.lit (.bool (C.slt a b))))
  | .add=>.need (C.nadd (C.ssize a) (C.ssize b)≤9223372036854775807) (.done (put d (.lit (.string (C.scat a b)))))
  |_=>.fail
 |x,y=>BQ E C d op t x y

def GU (C:Ctx) (d:Option Nat) (op:UnOp):A→Pg
 | .lit (.bool b)=>match op with
  | .not=>.done (put d (.lit (.bool (!b))))
  |_=>.fail
 | .lit (.int k n)=>match op with
  | .neg=>.done (put d (qt C k (C.sub 0 n)))
  |_=>.fail
 |_=>.fail

def wQ (d:Option Nat) (c a b:A):Pg:=match c with
 | .lit (.bool x)=>match a,b with
  | .lit (.bool p),.lit (.bool q)=>.done (put d (.lit (.bool (cond x p q))))
  |_,_=>.br x (.done (put d a)) (.done (put d b))
 |_=>.fail

def DU (E:TE) (C:Ctx) (d:Option Nat) (t:Nat):A→Pg
 | .lit (.string s)=>if oW (E.info t).td then .done (put d (.lit (.int .i64 (C.cast (C.ssize s))))) else .fail
 |a=>if iz (E.info t).td then match a with
 | .lit (.slice none 0 0)=>.done (put d (.lit (.int .i64 0)))
 | .emp=>.done (put d (.lit (.int .i64 0)))
 | .tree rows=>.done (put d (.lit (.int .i64 (C.cast (C.len rows)))))
 | .ref κ g _ n=>live κ g (.done (put d (.lit (.int .i64 (C.cast n)))))
 |_=>.fail else .fail

/-- the rows that are appended: read, not taken. -/
def tK (C:Ctx) (k:Nat):A→(Rows→Pg)→Pg
 | .lit (.slice none 0 0),f=>f []
 | .emp,f=>f []
 | .tree rows,f=>.need (C.Wide rows k∧C.Ones rows) (f rows)
 | .ref κ g i n,f=>.gn κ fun h=>match h with
  | .arr g' k' rows=>if g=g'∧k'=k then .need (C.nadd i n≤C.len rows∧C.Flat rows∧C.Ones rows) (f (C.part rows i n)) else .fail
  | .farr g' k' rows=>if g=g'∧k'=k then .need (C.nadd i n≤C.len rows∧C.Ones rows) (f (C.part rows i n)) else .fail
  |_=>.fail
 |_,_=>.fail
/-- .. or taken, where the operand is the very slot in which the slice was made. -/
def wJ (C:Ctx) (k t:Nat) (y:A) (f:List W→Rows→Pg):Pg:=match y with
 | .ref κ g i n=>if κ.1=t then .gn κ fun h=>match h with
  | .arr g' k' rows=>if g=g'∧k'=k∧i=0 then .need (n=C.len rows∧C.Ones rows) (f [.n κ (.dead g')] rows) else .fail
  |_=>tK C k y (f [])
  else tK C k y (f [])
 |y=>tK C k y (f [])
def C2 (κ:Key):A→Bool
 | .ref κ2 _ _ _=>kF κ2 [κ]
 |_=>false
def uQ (E:TE) (C:Ctx) (d:Option Nat) (t u:Nat) (x y:A):Pg:=match(E.info t).td with
 | .slice e=>if(E.info e).size=0∨(E.info e).bytes=0 then .fail else oo d fun d'=>match x with
  | .lit (.slice none 0 0)=>.gn (d',0) fun h=>wJ C (E.info e).size u y fun ws rows=>.need (C.Room (C.len rows) (E.info e).bytes) <|
    .done (ws++[.n (d',0) (.arr (h.gen+1) (E.info e).size rows),.s d' (.ref (d',0) (h.gen+1) 0 (C.len rows))])
  | .ref κ g i n=>.gn κ fun hx=>match hx with
   | .arr g' k rows=>if g=g'∧k=(E.info e).size∧i=0∧C2 κ y=false∧(E.info e).size≠0 then .gn (d',0) fun h=>wJ C k u y fun ws rows2=>.need (n≤C.len rows∧C.Room (C.nadd n (C.len rows2)) (E.info e).bytes)
     (.done (.n κ (.dead g')::ws++[.n (d',0) (.arr (h.gen+1) k (C.app (C.part rows 0 n) rows2)),.s d' (.ref (d',0) (h.gen+1) 0 (C.nadd n (C.len rows2)))])) else .fail
   |_=>.fail
  |_=>.fail
 |_=>.fail

end Go.Vm
/- Calls, regions and code of the evaluator. -/
namespace Go.Vm

/-- What is handed on in a call: what it is as data; nodes are taken or frozen, one after another. -/
def cr (C:Ctx):Nat→Mode→List A→(List A→Pg)→Pg
 |0,_,_,_=>.fail
 |_,_,[],f=>f []
 |n+1,m,x::xs,f=>match m with
  | .skip=>cr C n m xs fun as=>f (.hole::as)
  | .raw=>match x with
   | .lit v=>cr C n .raw xs fun as=>f (.lit v::as)
   |_=>.fail
  |m=>match x with
   | .lit v=>match v with
    | .slice none 0 0=>match m with
     | .own=>.ex Nat fun k=>cr C n m xs fun as=>f (cond (Nat.beq k 0) (.tree []) (.inl k [])::as)
     |_=>cr C n m xs fun as=>f (.tree []::as)
    |_=>cr C n m xs fun as=>f (.lit v::as)
   | .emp=>match m with
    | .own=>cr C n m xs fun as=>f (.emp::as)
    |_=>cr C n m xs fun as=>f (.tree []::as)
   | .tree rows=>cr C n m xs fun as=>f (.tree rows::as)
   | .iptr row off=>cr C n m xs fun as=>f (.iptr row off::as)
   | .inl k rows=>match m with
    | .own=>cr C n m xs fun as=>f (.inl k rows::as)
    |_=>cr C n m xs fun as=>f (.tree (C.fz rows)::as)
   | .agg cs=>cr C n m cs fun cs'=>cr C n m xs fun as=>f (.agg cs'::as)
   | .tup cs=>cr C n m cs fun cs'=>cr C n m xs fun as=>f (.tup cs'::as)
   | .clo g cs=>cr C n .val cs fun cs'=>cr C n m xs fun as=>f (.clo g cs'::as)
   | .ref κ g i k=>.gn κ fun h=>match h with
    | .farr g' _ rows=>if g=g' then .need (C.nadd i k≤C.len rows) (cr C n m xs fun as=>f (.tree (C.part rows i k)::as)) else .fail
    | .arr g' s rows=>match m with
     | .own=>if g=g'∧i=0 then .need (k=C.len rows) (.wr [.n κ (.dead g')] (cr C n m xs fun as=>f (.inl s rows::as))) else .fail
     |_=>if g=g' then .need (C.nadd i k≤C.len rows) (.wr [.n κ (.farr g' s (C.fz rows))] (cr C n m xs fun as=>f (.tree (C.part (C.fz rows) i k)::as))) else .fail
    |_=>.fail
   | .mptr κ g i off=>.gn κ fun h=>match h with
    | .fbox g' cells=>if g=g'∧i=0 then cr C n m xs fun as=>f (.iptr cells off::as) else .fail
    | .farr g' _ rows=>if g=g' then .ex (List A) fun row=>.need (C.At rows i row) (cr C n m xs fun as=>f (.iptr row off::as)) else .fail
    | .box g' cells=>match m with
     | .own=>if g=g'∧i=0∧off=0 then .wr [.n κ (.dead g')] (cr C n .own cells fun cs'=>cr C n m xs fun as=>f (.obox cs'::as)) else .fail
     |_=>if g=g'∧i=0 then .wr [.n κ (.dead g')] (cr C n .val cells fun cs'=>.wr [.n κ (.fbox g' cs')] (cr C n m xs fun as=>f (.iptr cs' off::as))) else .fail
    | .arr g' k rows=>match m with
     | .own=>if g=g'∧off=0 then .wr [.n κ (.dead g')] (cr C n m xs fun as=>f (.optr k rows i::as)) else .fail
     |_=>.fail
    |_=>.fail
   |_=>.fail

/-- What comes in (a result, an argument): what it owns becomes nodes of slot d. -/
def imp (C:Ctx) (d:Nat):Nat→Nat→List A→(List A→Pg)→Pg
 |0,_,_,_=>.fail
 |_,_,[],f=>f []
 |n+1,j,x::xs,f=>match x with
  | .inl k rows=>.gn (d,j) fun h=>.wr [.n (d,j) (.arr (h.gen+1) k rows)] (imp C d n (j+1) xs fun as=>f (.ref (d,j) (h.gen+1) 0 (C.len rows)::as))
  | .obox cells=>.gn (d,j) fun h=>.wr [.n (d,j) (.box (h.gen+1) cells)] (imp C d n (j+1) xs fun as=>f (.mptr (d,j) (h.gen+1) 0 0::as))
  | .optr k rows i=>.gn (d,j) fun h=>.wr [.n (d,j) (.arr (h.gen+1) k rows)] (imp C d n (j+1) xs fun as=>f (.mptr (d,j) (h.gen+1) i 0::as))
  | .agg cs=>imp C d n j cs fun cs'=>imp C d n (j+cs.length) xs fun as=>f (.agg cs'::as)
  | .tup cs=>imp C d n j cs fun cs'=>imp C d n (j+20) xs fun as=>f (.tup cs'::as)
  | .lit v=>imp C d n j xs fun as=>f (.lit v::as)
  | .tree rows=>imp C d n j xs fun as=>f (.tree rows::as)
  | .emp=>imp C d n j xs fun as=>f (.emp::as)
  | .iptr r o=>imp C d n j xs fun as=>f (.iptr r o::as)
  | .clo g cs=>imp C d n j xs fun as=>f (.clo g cs::as)
  | .hole=>imp C d n j xs fun as=>f (.hole::as)
  |_=>.fail

/-- What was lent comes mi: the operands, what they were as data, what they are now. -/
def mi (C:Ctx):List A→List A→List A→Pg→Pg
 | .ref κ g _ _::as,.inl k _::ds,.inl k' rows::ps,p=>if k=k' then .wr [.n κ (.arr g k rows)] (mi C as ds ps p) else .fail
 | .mptr κ g _ _::as,.optr k rows j::ds,.optr k' rows' j'::ps,p=>if k=k' then .need (C.len rows'=C.len rows∧j'=j) (.wr [.n κ (.arr g k rows')] (mi C as ds ps p)) else .fail
 | .mptr κ g _ _::as,.obox cells::ds,.obox cells'::ps,p=>if cells.length=cells'.length then .wr [.n κ (.box g cells')] (mi C as ds ps p) else .fail
 | .agg cs::as,.agg es::ds,.agg fs::ps,p=>mi C cs es fs (mi C as ds ps p)
 |_::as,_::ds,_::ps,p=>mi C as ds ps p
 |_,_,_,p=>p

def lh (C:Ctx) (fuel:Nat):List Mode→List A→(List A→Pg)→Pg
 |_,[],f=>f []
 |ms,x::xs,f=>cr C fuel (match ms with|m::_=>m|[]=>.val) [x] fun ds=>lh C fuel ms.tail xs fun ds'=>f (ds++ds')

def BD (x:Nat):List Nat→Bool
 |[]=>false
 |y::l=>if Nat.beq x y then true else BD x l
/-- the nodes under these keys -/
def wb:List Key→List (Key×HN)→(List (Key×HN)→Pg)→Pg
 |[],acc,k=>k acc
 |κ::ks,acc,k=>.gn κ fun h=>wb ks ((κ,h)::acc) k
/-- a call that changes nothing, and wb these nodes alone -/
def roPg (C:Ctx) (d:Option Nat) (f:FuncId) (args:List A):Pg:=
 .ex (List Key) fun ks=>wb ks [] fun H=>.ex A fun r=>.need (C.IN.ro f args H r) (.done (put d r))
def Bx (E:TE) (C:Ctx) (d:Option Nat) (f:FuncId) (args:List A):Pg:=cond (BD f E.inl) (.opq (C.IN.go d f args)) <| cond (BD f E.ro) (roPg C d f args) <|
 lh C 40 (E.sig f) args fun ds=>.ex (List A) fun post=>.ex A fun r=>.need (C.Fn f ds post r) <| mi C args ds post <|
  match d with
  |some d'=>imp C d' 40 0 [r] fun rs=>match rs with
   |[r']=>.done [.s d' r']
   |_=>.fail
  |none=>.done []

def Hd:Operand→Nat
 | .tmp t=>t
 |_=>1000000

/-- a field of a struct that stands in a slot -/
def uL (E:TE) (d:Option Nat) (s f:Nat) (a:A):Pg:=match(E.info s).td with
 | .struct fs=>oo fs[f]? fun(p,u)=>if qX (E.info u).td∨(E.info u).size=0 then .fail else match a with
  | .agg cs=>oo cs[p]? fun c=>.done (put d c)
  |_=>.fail
 |_=>.fail
/-- the string of one byte -/
def byte1 (b:Int):ByteArray:=ByteArray.empty.push (UInt8.ofNat b.toNat)
def Iq:TD→Bool
 | .int .u8=>true
 |_=>false
def Ca (E:TE) (C:Ctx) (d:Option Nat) (s:Nat) (κ:Key) (g i n:Nat):Pg:=match(E.info s).td with
 | .slice e=>if Iq (E.info e).td then .gn κ fun h=>(match h with
  | .arr g' _ rows=>(match rows with
   |[[.lit (.int .u8 b)]]=>if g=g'∧i=0 then .need (n=C.len rows) (.done (put d (.lit (.string (byte1 b))))) else .fail
   |_=>.fail)
  |_=>.fail) else .fail
 |_=>.fail
def mj (E:TE) (C:Ctx) (d:Option Nat):Op→Pg
 | .move x| .assign x=>opd x fun a=>.done (put d a)
 | .pick c a b=>opd c fun c=>opd a fun a=>opd b fun b=>wQ d c a b
 | .alloc t=>pw E t d (some (E.info t).zero)
 | .box t x=>opd x fun a=>pw E t d (cellsOf a)
 | .build t ps=>xP E d t ps.toList
 | .buildSlice t n ps=>oN E C d t n ps.toList
 | .load t a=>opd a fun a=>B8 E C d t a
 | .store t a v=>if d.isSome then .fail else opd a fun a=>opd v fun v=>xl E C t a v
 | .nilCheck x=>opd x fun a=>match a with
  | .mptr κ g _ _=>live κ g (.done (put d a))
  | .iptr .. =>.done (put d a)
  |_=>.fail
 | .binOp op t x y _=>opd x fun a=>opd y fun b=>Ef E C d op t a b
 | .unOp op _ x=>opd x fun a=>GU C d op a
 | .convert s t x=>opd x fun a=>match a,(E.info t).td with
  | .lit (.int _ n),.int k=>if iK (E.info s).td then .fail else .done (put d (qt C k n))
  | .lit (.string u),.str=>if iK (E.info s).td then .fail else .done (put d (.lit (.string u)))
  | .ref κ g i n,.str=>Ca E C d s κ g i n
  |_,_=>.fail
 | .makeFunc (.func f) first captured=>if first.size=0 then opds captured.toList fun cs=>.done (put d (.clo f cs)) else .fail
 | .makeSlice t l c=>opd l fun l=>opd c fun c=>pA E C d t l c
 | .slice t x l h m=>opd x fun x=>opdo l fun l=>opdo h fun h=>opdo m fun m=>yl E C d t x l h m
 | .fieldAddr s x f=>opd x fun x=>xU E d s f x
 | .indexAddr t x i=>opd x fun x=>opd i fun i=>xL E C d t x i
 | .index t x i=>opd x fun x=>opd i fun i=>match x,i with
  | .lit (.string s),.lit (.int _ n)=>if oW (E.info t).td then .need (C.lt n 0=false∧C.lt n (C.cast (C.ssize s))=true) (.done (put d (.lit (.int .u8 (C.sget s (C.toNat n)))))) else .fail
  |_,_=>.fail
 | .field s x f=>opd x fun x=>uL E d s f x
 | .extract t i=>opd t fun t=>match t with
  | .tup vs=>oo vs[i]? fun v=>.done (put d v)
  |_=>.fail
 | .call c=>match c.callee with
  | .value f=>opd f fun f=>opds c.args.toList fun as=>match f with
   | .clo g cs=>Bx E C d g (as++cs)
   |_=>.fail
  | .builtin .len=>match c.args.toList,c.argTypes.toList with
   |[x],[t]=>opd x fun a=>DU E C d t a
   |_,_=>.fail
  | .builtin .append=>match c.args.toList,c.argTypes.toList with
   |[x,y],[t,s]=>if iz (E.info s).td then(opd x fun a=>opd y fun b=>uQ E C d t (Hd y) a b) else .fail
   |_,_=>.fail
  | .builtin .min=>match c.args.toList with
   |[x,y]=>opd x fun x=>opd y fun y=>match x,y with
    | .lit (.int k p),.lit (.int _ q)=>.done (put d (.lit (.int k (cond (C.lt q p) q p))))
    |_,_=>.fail
   |_=>.fail
  | .builtin .max=>match c.args.toList with
   |[x,y]=>opd x fun x=>opd y fun y=>match x,y with
    | .lit (.int k p),.lit (.int _ q)=>.done (put d (.lit (.int k (cond (C.lt p q) q p))))
    |_,_=>.fail
   |_=>.fail
  |_=>.fail
 |_=>.fail

/-- what stands in the slot of an operation that was passed over -/
abbrev unset:A:=.lit (.tuple #[])
def wpOps (E:TE) (C:Ctx) (ops:List Oper) (K:St→Prop):List Oper→St→Prop
 |[],σ=>K σ
 |o::rest,σ=>match o.guard with
  |none=>(mj E C o.dst o.op).holds σ fun ws=>wpOps E C ops K rest (σ.upd ws)
  |some (j,want)=>match(ops[j]?).bind (·.dst) with
   |none=>False
   |some g=>match lkS σ.slots g with
    | .lit (.bool b)=>match want with
     |true=>match b with
      |true=>(mj E C o.dst o.op).holds σ fun ws=>wpOps E C ops K rest (σ.upd ws)
      |false=>wpOps E C ops K rest (σ.upd (put o.dst unset))
     |false=>match b with
      |true=>wpOps E C ops K rest (σ.upd (put o.dst unset))
      |false=>(mj E C o.dst o.op).holds σ fun ws=>wpOps E C ops K rest (σ.upd ws)
    | .lit (.tuple _)=>wpOps E C ops K rest (σ.upd (put o.dst unset))
    |_=>False

/-- places that are read or written -/
inductive L where
 |s (t:Nat)
 |n (κ:Key)
def L.is:L→L→Bool
 | .s t,.s u=>Nat.beq t u
 | .n κ,.n κ'=>if κ.1=κ'.1 then Nat.beq κ.2 κ'.2 else false
 |_,_=>false
def W.loc:W→L
 | .s t _=>.s t
 | .n κ _=>.n κ
def ef:List W→List L
 |[]=>[]
 |w::ws=>w.loc::ef ws
def yB (x:L):List L→Bool
 |[]=>false
 |y::l=>if x.is y then true else yB x l
def oh:List L→List L→Bool
 |[],_=>true
 |x::l,l'=>if yB x l' then false else oh l l'
def ni (x:Nat):List Nat→Bool
 |[]=>false
 |y::l=>if Nat.beq x y then true else ni x l

/-- a program, with what it wb -/
def Pg.log:Pg→St→List L→(List W→List L→Prop)→Prop
 | .fail,_,_,_=>False
 | .done ws,_,R,K=>K ws R
 | .gs t f,σ,R,K=>(f (lkS σ.slots t)).log σ (.s t::R) K
 | .gn κ f,σ,R,K=>(f (lkN σ.heap κ.1 κ.2)).log σ (.n κ::R) K
 | .need φ p,σ,R,K=>φ∧p.log σ R K
 | .ex α f,σ,R,K=>∃x:α,(f x).log σ R K
 | .br b p q,σ,R,K=>match b with
  |true=>p.log σ R K
  |false=>q.log σ R K
 | .al _ _,_,_,_=>False
 | .opq _,_,_,_=>False
 | .wr ws p,σ,R,K=>p.log (σ.upd ws) R fun ws2 R=>K (ws++ws2) R

/-- an operation that has been evaluated: its number, those before it, what it read, what it wrote -/
structure Ent where
 i:Nat
 anc:List Nat
 rd:List L
 wr:List L
def mu (e:Edge):Bool:=match e.ground with
 | .textOnly _| .gcOnly _=>false
 |_=>true
def ei (es:List Edge):List Nat:=match es with
 |[]=>[]
 |e::es=>if mu e then e.on::ei es else ei es
def w7 (j:Nat):List Ent→List Nat
 |[]=>[]
 |e::es=>if Nat.beq e.i j then e.anc else w7 j es
def sO:List Nat→List Nat→List Nat
 |[],l=>l
 |x::xs,l=>if ni x l then sO xs l else x::sO xs l
def nt (es:List Ent):List Nat→List Nat
 |[]=>[]
 |j::js=>sO (j::w7 j es) (nt es js)
def ri (i:Nat):List Nat→Bool
 |[]=>true
 |j::js=>if Nat.blt j i then ri i js else false
def fD (anc:List Nat) (rd wr:List L):List Ent→Bool
 |[]=>true
 |e::es=>if ni e.i anc then fD anc rd wr es else if oh e.wr rd then(if oh e.wr wr then(if oh wr e.rd then fD anc rd wr es else false) else false) else false

def gF (E:TE) (C:Ctx) (ops:List Oper) (K:St→Prop):List Oper→Nat→List Ent→St→Prop
 |[],_,_,σ=>K σ
 |o::rest,i,es,σ=>
  ri i (ei o.after.toList)=true∧
  let anc:=nt es (ei o.after.toList)
  match o.guard with
  |none=>(mj E C o.dst o.op).log σ [] fun ws R=>fD anc R (ef ws) es=true∧gF E C ops K rest (i+1) (⟨i,anc,R,ef ws⟩::es) (σ.upd ws)
  |some (j,want)=>match(ops[j]?).bind (·.dst) with
   |none=>False
   |some g=>match lkS σ.slots g with
    | .lit (.bool b)=>match want with
     |true=>match b with
      |true=>(mj E C o.dst o.op).log σ [.s g] fun ws R=>fD anc R (ef ws) es=true∧gF E C ops K rest (i+1) (⟨i,anc,R,ef ws⟩::es) (σ.upd ws)
      |false=>fD anc [.s g] (ef (put o.dst unset)) es=true∧gF E C ops K rest (i+1) (⟨i,anc,[.s g],ef (put o.dst unset)⟩::es) (σ.upd (put o.dst unset))
     |false=>match b with
      |true=>fD anc [.s g] (ef (put o.dst unset)) es=true∧gF E C ops K rest (i+1) (⟨i,anc,[.s g],ef (put o.dst unset)⟩::es) (σ.upd (put o.dst unset))
      |false=>(mj E C o.dst o.op).log σ [.s g] fun ws R=>fD anc R (ef ws) es=true∧gF E C ops K rest (i+1) (⟨i,anc,R,ef ws⟩::es) (σ.upd ws)
    | .lit (.tuple _)=>fD anc [.s g] (ef (put o.dst unset)) es=true∧gF E C ops K rest (i+1) (⟨i,anc,[.s g],ef (put o.dst unset)⟩::es) (σ.upd (put o.dst unset))
    |_=>False

/-- code that stands for a stretch that is led through another state -/
def lJ:Code→Bool
 | .seq (.label _) _=>true
 |_=>false
def wpC (E:TE) (C:Ctx):Code→(Ex→St→Prop)→St→Prop
 | .skip,Q,σ=>Q .normal σ
 | .region id ops false,Q,σ=>cond (ni id E.gap) (C.LW (.seq (.label 0) (.region id ops false)) Q σ) (wpOps E C ops.toList (Q .normal) ops.toList σ)
 | .region id ops true,Q,σ=>cond (ni id E.gap) (C.LW (.seq (.label 0) (.region id ops true)) Q σ) (gF E C ops.toList (Q .normal) ops.toList 0 [] σ)
 | .seq a b,Q,σ=>wpC E C a (fun e σ=>match e with| .normal=>wpC E C b Q σ|e=>Q e σ) σ
 | .cond (.tmp t) a b,Q,σ=>match lkS σ.slots t with
  | .lit (.bool x)=>match x with
   |true=>wpC E C a Q σ
   |false=>wpC E C b Q σ
  |_=>False
 | .cond (.const (.bool x)) a b,Q,σ=>match x with
  |true=>wpC E C a Q σ
  |false=>wpC E C b Q σ
 | .block id c,Q,σ=>wpC E C c (fun e σ=>match e with| .exit i=>if i=id then Q .normal σ else Q (.exit i) σ|e=>Q e σ) σ
 | .exit id,Q,σ=>Q (.exit id) σ
 | .ret,Q,σ=>Q .ret σ
 | .loop c,Q,σ=>cond (lJ c) False (C.LW c Q σ)
 |_,_,_=>False

def xf (n:Nat):List Oper→Bool
 |[]=>true
 |o::os=>match o.dst with
  |none=>xf n os
  |some d=>if Nat.blt d n then xf n os else false
def ff (n:Nat):Code→Bool
 | .region _ ops _=>xf n ops.toList
 | .seq a b=>if ff n a then ff n b else false
 | .cond (.tmp t) a b=>if Nat.blt t n then(if ff n a then ff n b else false) else false
 | .cond _ a b=>if ff n a then ff n b else false
 | .block _ c=>ff n c
 | .loop c=>ff n c
 |_=>true

/-- what is handed in becomes slots and nodes; past the slots it is kept in mind -/
def pe (C:Ctx):Nat→List A→St→(St→Prop)→Prop
 |_,[],σ,k=>k σ
 |i,d::ds,σ,k=>(imp C i 40 0 [d] fun xs=>match xs with
  |[x]=>.done [.s i x,.s (1000000+i) x]
  |_=>.fail).holds σ fun ws=>pe C (i+1) ds (σ.upd ws) k

def tupOf:List A→A
 |[x]=>x
 |xs=>.tup xs
def qa:List Nat→(List A→Pg)→Pg
 |[],f=>f []
 |t::ts,f=>.gs t fun a=>qa ts fun as=>f (a::as)
/-- what is handed out: the results; what was lent -/
def retPg (C:Ctx) (ts:List Nat) (rm:List Mode) (gs:List Nat) (pm:List Mode) (post:List A) (r:A):Pg:=
 qa ts fun vs=>qa gs fun as=>lh C 40 rm vs fun rds=>lh C 40 pm as fun pds=>.need (tupOf rds=r∧pds=post) (.done [])
def body (E:TE) (C:Ctx) (c:Code) (ts:List Nat) (rm:List Mode) (gs:List Nat) (pm:List Mode) (ds post:List A) (r:A):Prop:=
 pe C 0 ds ⟨[],[]⟩ fun σ=>wpC E C c (fun e σ=>match e with
  | .exit _=>False
  |_=>(retPg C ts rm gs pm post r).holds σ fun _=>True) σ
end Go.Vm
/- What abstract values mean in the model's memory. -/
namespace Go.Vm

inductive Loc where
 |gone
 |nil
 |at_ (b base size:Nat)
structure KI where
 gen:Nat
 loc:Loc
 k:Nat
 n:Nat
abbrev Lam:=Key→KI
abbrev Set:=Nat→Prop
def Set.no:Set:=fun _=>False
def Set.le (S T:Set):Prop:=∀b,S b→T b
def Set.dis (S T:Set):Prop:=∀b,S b→¬T b
def Set.one (b:Nat):Set:=fun x=>x=b
/-- block b is a row of size cells, none of them frozen -/
def Own (w:World) (b size:Nat):Prop:=∃c e lo hi,w.heap[b]? =some (.cells c e (lo,hi))∧c.size=size∧hi≤lo

def eB (i:KI) (g j n:Nat) (u:Value):Prop:=
 g≤i.gen∧(g=i.gen→match i.loc with
  | .gone=>True
  | .nil=>j=0∧n=0∧u= .slice none 0 0
  | .at_ b base size=>∃o cap,u= .slice (some ⟨b,o,none⟩) n cap∧n≤cap∧j+n≤i.n∧o≤size∧(cap=0∨(o=base+j * i.k∧o+cap * i.k≤size)))∧∃ad m cap,u= .slice ad m cap
def eG (i:KI) (g j off:Nat) (u:Value):Prop:=
 g≤i.gen∧(g=i.gen→match i.loc with
  | .gone=>True
  | .nil=>False
  | .at_ b base _=>u= .pointer (some ⟨b,base+j * i.k+off,none⟩))∧∃ad,u= .pointer ad

mutual
def CR (w:World) (imm:Set):Option Lam→A→Value→Set→Prop
 |_,.lit v,u,_=>u=v
 |_,.emp,u,_=>∃a,u= .slice a 0 0
 |_,.tree rows,u,_=>∃a cap,u= .slice a rows.length cap∧rows.length≤cap∧(rows=[]∨∃b o k,a=some ⟨b,o,none⟩∧imm b∧aq w imm none rows b o k Set.no)
 |_,.inl k rows,u,S=>∃a cap,u= .slice a rows.length cap∧((a=none∧cap=0∧rows=[])∨
   ∃b o size S',a=some ⟨b,o,none⟩∧S b∧¬S' b∧Set.le S' S∧Own w b size∧o+cap * k≤size∧o≤size∧rows.length≤cap∧aq w imm none rows b o k S')
 |_,.obox cells,u,S=>∃b o size S',u= .pointer (some ⟨b,o,none⟩)∧S b∧¬S' b∧Set.le S' S∧Own w b size∧o+cells.length≤size∧ai w imm none cells b o S'
 |_,.optr k rows i,u,S=>∃b o size S',u= .pointer (some ⟨b,o+i * k,none⟩)∧S b∧¬S' b∧Set.le S' S∧Own w b size∧o+rows.length * k≤size∧aq w imm none rows b o k S'
 |none,.ref ..,_,_=>False
 |none,.mptr ..,_,_=>False
 |some Λ,.ref κ g i n,u,_=>eB (Λ κ) g i n u
 |some Λ,.mptr κ g i off,u,_=>eG (Λ κ) g i off u
 |_,.iptr row off,u,_=>∃b o,u= .pointer (some ⟨b,o+off,none⟩)∧imm b∧ai w imm none row b o Set.no
 |x,.agg cs,u,S=>∃vs,u= .agg vs.toArray∧af w imm x cs vs S
 |x,.tup cs,u,S=>∃vs,u= .tuple vs.toArray∧af w imm x cs vs S
 |x,.clo f caps,u,_=>∃vs,u= .func (.func f) #[] vs.toArray∧af w imm x caps vs Set.no
 |_,.hole,_,_=>True
/-- cells from place o of block b on -/
def ai (w:World) (imm:Set):Option Lam→List A→Nat→Nat→Set→Prop
 |_,[],_,_,_=>True
 |x,c::cs,b,o,S=>∃v S1 S2,w.cell? ⟨b,o,none⟩=some v∧CR w imm x c v S1∧ai w imm x cs b (o+1) S2∧Set.le S1 S∧Set.le S2 S∧Set.dis S1 S2
def aq (w:World) (imm:Set):Option Lam→List (List A)→Nat→Nat→Nat→Set→Prop
 |_,[],_,_,_,_=>True
 |x,r::rs,b,o,k,S=>∃S1 S2,r.length=k∧ai w imm x r b o S1∧aq w imm x rs b (o+k) k S2∧Set.le S1 S∧Set.le S2 S∧Set.dis S1 S2
def af (w:World) (imm:Set):Option Lam→List A→List Value→Set→Prop
 |_,[],[],_=>True
 |x,c::cs,v::vs,S=>∃S1 S2,CR w imm x c v S1∧af w imm x cs vs S2∧Set.le S1 S∧Set.le S2 S∧Set.dis S1 S2
 |_,_,_,_=>False
end

theorem Set.le_refl (S:Set):Set.le S S:=fun _ h=>h
theorem Set.le_trans {S T U:Set} (h:Set.le S T) (k:Set.le T U):Set.le S U:=fun b x=>k b (h b x)
theorem Set.no_le (S:Set):Set.le Set.no S:=fun _ h=>h.elim
theorem Set.dis_le {S T S' T':Set} (h:Set.dis S T) (a:Set.le S' S) (b:Set.le T' T):Set.dis S' T':=fun x hx ht=>h x (a x hx) (b x ht)
theorem Set.no_dis (S:Set):Set.dis Set.no S:=fun _ h=>h.elim

/-- what a later view of the nodes keeps of an earlier one -/
def bF (Λ Λ':Lam):Prop:=∀κ,(Λ κ).gen≤(Λ' κ).gen∧((Λ' κ).gen=(Λ κ).gen→(Λ' κ).loc= .gone∨Λ' κ=Λ κ)
def bF?:Option Lam→Option Lam→Prop
 |none,none=>True
 |some Λ,some Λ'=>bF Λ Λ'
 |_,_=>False
theorem bF.refl (Λ:Lam):bF Λ Λ:=fun _=>⟨qzi _,fun _=>.inr rfl⟩
theorem bF?.refl:∀x,bF? x x
 |none=>trivial
 |some Λ=>bF.refl Λ

theorem eB.le {i i':KI} {g j n:Nat} {u:Value} (h:eB i g j n u) (hg:i.gen≤i'.gen) (hl:i'.gen=i.gen→i'.loc= .gone∨i'=i):eB i' g j n u:=by
 refine⟨qzz h.1 hg,fun e=>?_,h.2.2⟩
 have e':i'.gen=i.gen:=Nat.le_antisymm (e▸h.1) hg
 rcases hl e' with h1|h1
 ·rw[h1];trivial
 ·rw[h1] at e⊢;exact h.2.1 e
theorem eG.le {i i':KI} {g j n:Nat} {u:Value} (h:eG i g j n u) (hg:i.gen≤i'.gen) (hl:i'.gen=i.gen→i'.loc= .gone∨i'=i):eG i' g j n u:=by
 refine⟨qzz h.1 hg,fun e=>?_,h.2.2⟩
 have e':i'.gen=i.gen:=Nat.le_antisymm (e▸h.1) hg
 rcases hl e' with h1|h1
 ·rw[h1];trivial
 ·rw[h1] at e⊢;exact h.2.1 e

theorem cell?_same {w w':World} {b o:Nat} (h:w'.heap[b]? =w.heap[b]?):w'.cell? ⟨b,o,none⟩=w.cell? ⟨b,o,none⟩:=by simp[World.cell?,h]
theorem Own.same {w w':World} {b size:Nat} (h:Own w b size) (e:w'.heap[b]? =w.heap[b]?):Own w' b size:=by
 obtain⟨c,t,lo,hi,h1,h2⟩:=h
 exact⟨c,t,lo,hi,by rw[e];exact h1,h2⟩

mutual
theorem CR.stable {w w':World} {imm imm':Set} (hi:Set.le imm imm') (he:∀b,imm b→w'.heap[b]? =w.heap[b]?) :
  ∀(x x':Option Lam) (a:A) (v:Value) (S T:Set),bF? x x'→Set.le S T→(∀b,S b→w'.heap[b]? =w.heap[b]?)→CR w imm x a v S→CR w' imm' x' a v T
 |_,_,.lit v,u,_,_,_,_,_,h=>by simpa only[CR] using h
 |_,_,.emp,u,_,_,_,_,_,h=>by simpa only[CR] using h
 |_,_,.tree rows,u,_,_,_,_,_,h=>by
  simp only[CR] at h⊢
  obtain⟨a,cap,h1,h2,h3⟩:=h
  refine⟨a,cap,h1,h2,h3.imp id ?_⟩
  rintro⟨b,o,k,e,hb,hr⟩
  exact⟨b,o,k,e,hi b hb,aq.stable hi he none none rows b o k _ _ trivial (Set.le_refl _) (he b hb) (fun _ h=>h.elim) hr⟩
 |_,_,.inl k rows,u,S,T,_,hS,hb,h=>by
  simp only[CR] at h⊢
  obtain⟨a,cap,h1,h3⟩:=h
  refine⟨a,cap,h1,h3.imp id ?_⟩
  rintro⟨b,o,size,S',e,hSb,hn,hle,hown,h2,h4,h5,hr⟩
  exact⟨b,o,size,S',e,hS b hSb,hn,Set.le_trans hle hS,hown.same (hb b hSb),h2,h4,h5,aq.stable hi he none none rows b o k _ _ trivial (Set.le_refl _) (hb b hSb) (fun y hy=>hb y (hle y hy)) hr⟩
 |_,_,.obox cells,u,S,T,_,hS,hb,h=>by
  simp only[CR] at h⊢
  obtain⟨b,o,size,S',e,hSb,hn,hle,hown,h2,hr⟩:=h
  exact⟨b,o,size,S',e,hS b hSb,hn,Set.le_trans hle hS,hown.same (hb b hSb),h2,ai.stable hi he none none cells b o _ _ trivial (Set.le_refl _) (hb b hSb) (fun y hy=>hb y (hle y hy)) hr⟩
 |_,_,.optr k rows i,u,S,T,_,hS,hb,h=>by
  simp only[CR] at h⊢
  obtain⟨b,o,size,S',e,hSb,hn,hle,hown,h2,hr⟩:=h
  exact⟨b,o,size,S',e,hS b hSb,hn,Set.le_trans hle hS,hown.same (hb b hSb),h2,aq.stable hi he none none rows b o k _ _ trivial (Set.le_refl _) (hb b hSb) (fun y hy=>hb y (hle y hy)) hr⟩
 |none,none,.ref ..,_,_,_,_,_,_,h=>by simp only[CR] at h
 |none,none,.mptr ..,_,_,_,_,_,_,h=>by simp only[CR] at h
 |none,some _,.ref ..,_,_,_,hx,_,_,_=>hx.elim
 |none,some _,.mptr ..,_,_,_,hx,_,_,_=>hx.elim
 |some _,none,.ref ..,_,_,_,hx,_,_,_=>hx.elim
 |some _,none,.mptr ..,_,_,_,hx,_,_,_=>hx.elim
 |some Λ,some Λ',.ref κ g i n,u,_,_,hx,_,_,h=>by
  simp only[CR] at h⊢
  exact h.le (hx κ).1 (hx κ).2
 |some Λ,some Λ',.mptr κ g i n,u,_,_,hx,_,_,h=>by
  simp only[CR] at h⊢
  exact h.le (hx κ).1 (hx κ).2
 |_,_,.iptr row off,u,_,_,_,_,_,h=>by
  simp only[CR] at h⊢
  obtain⟨b,o,e,hb,hr⟩:=h
  exact⟨b,o,e,hi b hb,ai.stable hi he none none row b o _ _ trivial (Set.le_refl _) (he b hb) (fun _ h=>h.elim) hr⟩
 |x,x',.agg cs,u,S,T,hx,hS,hb,h=>by
  simp only[CR] at h⊢
  obtain⟨vs,e,hr⟩:=h
  exact⟨vs,e,af.stable hi he x x' cs vs S T hx hS hb hr⟩
 |x,x',.tup cs,u,S,T,hx,hS,hb,h=>by
  simp only[CR] at h⊢
  obtain⟨vs,e,hr⟩:=h
  exact⟨vs,e,af.stable hi he x x' cs vs S T hx hS hb hr⟩
 |x,x',.clo f cs,u,S,T,hx,hS,hb,h=>by
  simp only[CR] at h⊢
  obtain⟨vs,e,hr⟩:=h
  exact⟨vs,e,af.stable hi he x x' cs vs _ _ hx (Set.le_refl _) (fun _ h=>h.elim) hr⟩
 |_,_,.hole,_,_,_,_,_,_,_=>by simp only[CR]
theorem ai.stable {w w':World} {imm imm':Set} (hi:Set.le imm imm') (he:∀b,imm b→w'.heap[b]? =w.heap[b]?) :
  ∀(x x':Option Lam) (cs:List A) (b o:Nat) (S T:Set),bF? x x'→Set.le S T→w'.heap[b]? =w.heap[b]? →(∀b,S b→w'.heap[b]? =w.heap[b]?)→ai w imm x cs b o S→ai w' imm' x' cs b o T
 |_,_,[],_,_,_,_,_,_,_,_,_=>by simp only[ai]
 |x,x',c::cs,b,o,S,T,hx,hS,hb,hs,h=>by
  simp only[ai] at h⊢
  obtain⟨v,S1,S2,h1,h2,h3,h4,h5,h6⟩:=h
  exact⟨v,S1,S2,by rw[cell?_same hb];exact h1,CR.stable hi he x x' c v _ _ hx (Set.le_refl _) (fun y hy=>hs y (h4 y hy)) h2,
   ai.stable hi he x x' cs b (o+1) _ _ hx (Set.le_refl _) hb (fun y hy=>hs y (h5 y hy)) h3,Set.le_trans h4 hS,Set.le_trans h5 hS,h6⟩
theorem aq.stable {w w':World} {imm imm':Set} (hi:Set.le imm imm') (he:∀b,imm b→w'.heap[b]? =w.heap[b]?) :
  ∀(x x':Option Lam) (rs:List (List A)) (b o k:Nat) (S T:Set),bF? x x'→Set.le S T→w'.heap[b]? =w.heap[b]? →(∀b,S b→w'.heap[b]? =w.heap[b]?)→aq w imm x rs b o k S→aq w' imm' x' rs b o k T
 |_,_,[],_,_,_,_,_,_,_,_,_,_=>by simp only[aq]
 |x,x',r::rs,b,o,k,S,T,hx,hS,hb,hs,h=>by
  simp only[aq] at h⊢
  obtain⟨S1,S2,h1,h2,h3,h4,h5,h6⟩:=h
  exact⟨S1,S2,h1,ai.stable hi he x x' r b o _ _ hx (Set.le_refl _) hb (fun y hy=>hs y (h4 y hy)) h2,
   aq.stable hi he x x' rs b (o+k) k _ _ hx (Set.le_refl _) hb (fun y hy=>hs y (h5 y hy)) h3,Set.le_trans h4 hS,Set.le_trans h5 hS,h6⟩
theorem af.stable {w w':World} {imm imm':Set} (hi:Set.le imm imm') (he:∀b,imm b→w'.heap[b]? =w.heap[b]?) :
  ∀(x x':Option Lam) (cs:List A) (vs:List Value) (S T:Set),bF? x x'→Set.le S T→(∀b,S b→w'.heap[b]? =w.heap[b]?)→af w imm x cs vs S→af w' imm' x' cs vs T
 |_,_,[],[],_,_,_,_,_,_=>by simp only[af]
 |_,_,[],_::_,_,_,_,_,_,h=>by simp only[af] at h
 |_,_,_::_,[],_,_,_,_,_,h=>by simp only[af] at h
 |x,x',c::cs,v::vs,S,T,hx,hS,hs,h=>by
  simp only[af] at h⊢
  obtain⟨S1,S2,h1,h2,h4,h5,h6⟩:=h
  exact⟨S1,S2,CR.stable hi he x x' c v _ _ hx (Set.le_refl _) (fun y hy=>hs y (h4 y hy)) h1,
   af.stable hi he x x' cs vs _ _ hx (Set.le_refl _) (fun y hy=>hs y (h5 y hy)) h2,Set.le_trans h4 hS,Set.le_trans h5 hS,h6⟩
end


mutual
theorem CR.any (w:World) (imm:Set) (x:Option Lam):∀(a:A) (v:Value) (S:Set),CR w imm none a v S→CR w imm x a v S
 | .agg cs,v,S,h=>by
  simp only[CR] at h⊢;obtain⟨vs,e,hr⟩:=h;exact⟨vs,e,af.any w imm x cs vs S hr⟩
 | .tup cs,v,S,h=>by
  simp only[CR] at h⊢;obtain⟨vs,e,hr⟩:=h;exact⟨vs,e,af.any w imm x cs vs S hr⟩
 | .clo f cs,v,S,h=>by
  simp only[CR] at h⊢;obtain⟨vs,e,hr⟩:=h;exact⟨vs,e,af.any w imm x cs vs _ hr⟩
 | .lit _,v,S,h=>by simp only[CR] at h⊢;exact h
 | .emp,v,S,h=>by simp only[CR] at h⊢;exact h
 | .tree _,v,S,h=>by simp only[CR] at h⊢;exact h
 | .inl _ _,v,S,h=>by simp only[CR] at h⊢;exact h
 | .obox _,v,S,h=>by simp only[CR] at h⊢;exact h
 | .optr _ _ _,v,S,h=>by simp only[CR] at h⊢;exact h
 | .ref ..,v,S,h=>by simp only[CR] at h
 | .mptr ..,v,S,h=>by simp only[CR] at h
 | .iptr _ _,v,S,h=>by simp only[CR] at h⊢;exact h
 | .hole,v,S,h=>by simp only[CR]
theorem af.any (w:World) (imm:Set) (x:Option Lam):∀(cs:List A) (vs:List Value) (S:Set),af w imm none cs vs S→af w imm x cs vs S
 |[],[],_,_=>by simp only[af]
 |[],_::_,_,h=>by simp only[af] at h
 |_::_,[],_,h=>by simp only[af] at h
 |c::cs,v::vs,S,h=>by
  simp only[af] at h⊢
  obtain⟨S1,S2,h1,h2,h3⟩:=h
  exact⟨S1,S2,CR.any w imm x c v S1 h1,af.any w imm x cs vs S2 h2,h3⟩
end
theorem ai.any (w:World) (imm:Set) (x:Option Lam):∀(cs:List A) (b o:Nat) (S:Set),ai w imm none cs b o S→ai w imm x cs b o S
 |[],_,_,_,_=>by simp only[ai]
 |c::cs,b,o,S,h=>by
  simp only[ai] at h⊢
  obtain⟨v,S1,S2,h0,h1,h2,h3⟩:=h
  exact⟨v,S1,S2,h0,CR.any w imm x c v S1 h1,ai.any w imm x cs b (o+1) S2 h2,h3⟩

end Go.Vm
/- Reading and writing rows of cells. -/
namespace Go.Vm

/-- vs laid into block b from place o on -/
def setRow (w:World) (b o:Nat):List Value→World
 |[]=>w
 |v::vs=>setRow (w.setCell ⟨b,o,none⟩ v) b (o+1) vs

theorem sr (w:World) (b o:Nat) (v:Value) (x:Nat) (h:x≠b):(w.setCell ⟨b,o,none⟩ v).heap[x]? =w.heap[x]? :=by
 simp only[World.setCell,Array.getElem?_modify]
 rw[if_neg (fun e=>h e.symm)]
theorem setRow_heap (b:Nat):∀(vs:List Value) (w:World) (o x:Nat),x≠b→(setRow w b o vs).heap[x]? =w.heap[x]?
 |[],_,_,_,_=>rfl
 |v::vs,w,o,x,h=>by rw[setRow,setRow_heap b vs _ _ _ h,sr _ _ _ _ _ h]
theorem setRow_size (b:Nat):∀(vs:List Value) (w:World) (o:Nat),(setRow w b o vs).heap.size=w.heap.size
 |[],_,_=>rfl
 |v::vs,w,o=>by rw[setRow,setRow_size b vs];simp[World.setCell]
theorem setRow_os (b:Nat):∀(vs:List Value) (w:World) (o:Nat),(setRow w b o vs).os=w.os∧(setRow w b o vs).output=w.output∧(setRow w b o vs).tape=w.tape
 |[],_,_=>⟨rfl,rfl,rfl⟩
 |v::vs,w,o=>by rw[setRow];exact setRow_os b vs _ _
theorem nA {w:World} {b:Nat} {c:Array Value} {e:TypeId} {fr:Nat×Nat} (h:w.heap[b]? =some (.cells c e fr)) (o:Nat) (v:Value) :
  (w.setCell ⟨b,o,none⟩ v).heap[b]? =some (.cells (c.setIfInBounds o v) e fr):=by
 simp[World.setCell,Array.getElem?_modify,h]
theorem Own.setCell {w:World} {b size:Nat} (h:Own w b size) (o:Nat) (v:Value):Own (w.setCell ⟨b,o,none⟩ v) b size:=by
 obtain⟨c,t,lo,hi,h1,h2,h3⟩:=h
 exact⟨c.setIfInBounds o v,t,lo,hi,nA h1 o v,by simpa using h2,h3⟩
theorem Own.setRow {b size:Nat}:∀(vs:List Value) {w:World},Own w b size→∀(o:Nat),Own (setRow w b o vs) b size
 |[],_,h,_=>h
 |v::vs,_,h,o=>Own.setRow vs (h.setCell o v) (o+1)
theorem cell?_block {w:World} {b o:Nat} {c:Array Value} {e:TypeId} {fr:Nat×Nat} (h:w.heap[b]? =some (.cells c e fr)):w.cell? ⟨b,o,none⟩=c[o]? :=by
 simp[World.cell?,h]
theorem Own.cell {w:World} {b size o:Nat} (h:Own w b size) (ho:o<size):∃v,w.cell? ⟨b,o,none⟩=some v:=by
 obtain⟨c,t,lo,hi,h1,h2,h3⟩:=h
 exact⟨c[o],by rw[cell?_block h1];simp[h2,ho]⟩
theorem Own.frozen {w:World} {b size o:Nat} (h:Own w b size):w.frozen? ⟨b,o,none⟩=false:=by
 obtain⟨c,t,lo,hi,h1,h2,h3⟩:=h
 simp[World.frozen?,h1]
 intro h;omega
theorem DR {w:World} {b size o p:Nat} (h:Own w b size) (v:Value) (ho:o<size):(w.setCell ⟨b,o,none⟩ v).cell? ⟨b,p,none⟩=if p=o then some v else w.cell? ⟨b,p,none⟩:=by
 obtain⟨c,t,lo,hi,h1,h2,h3⟩:=h
 rw[cell?_block (nA h1 o v),cell?_block h1]
 by_cases e:p=o
 ·subst e;simp[h2,ho]
 ·rw[if_neg e,Array.getElem?_setIfInBounds_ne (fun x=>e x.symm)]
theorem fv {b size:Nat}:∀(vs:List Value) {w:World} (_:Own w b size) (o p:Nat),o+vs.length≤size→
  (setRow w b o vs).cell? ⟨b,p,none⟩=if o≤p∧p<o+vs.length then vs[p-o]? else w.cell? ⟨b,p,none⟩
 |[],w,_,o,p,_=>by rw[if_neg (by simp)];rfl
 |v::vs,w,h,o,p,hs=>by
  simp only[qzm] at hs
  rw[setRow,fv vs (h.setCell o v) (o+1) p qom,DR h v qom]
  simp only[qzm]
  by_cases h1:p=o
  ·subst h1;rw[if_neg qom,if_pos rfl,if_pos qom];simp
  ·by_cases h2:o+1≤p∧p<o+1+vs.length
   ·rw[if_pos h2,if_pos qom]
    obtain⟨q,rfl⟩:∃q,p=o+1+q:=⟨p-(o+1),by omega⟩
    rw[show o+1+q-(o+1)=q by omega,show o+1+q-o=q+1 by omega];simp
   ·rw[if_neg h2,if_neg h1,if_neg qom]

section runs
variable {P:Program}
theorem Addr.add_mk (b o i:Nat):Addr.add ⟨b,o,none⟩ i=⟨b,o+i,none⟩:=by
 unfold Addr.add;split
 ·subst_vars;rfl
 ·rfl
theorem uH {α β:Type} {s:Sem α} {f:α→Sem β} {w w':World} {a:α} (h:s.run P w= .ok a w'):(s >>= f).run P w=(f a).run P w':=by
 rw[Sem.run_bind,h];rfl
theorem um {a:Addr} {v:Value} {w:World} (h:w.cell? a=some v):(load a).run P w= .ok v w:=by simp[h]
theorem ga (b o:Nat) (w:World):∀(vs:List Value) (i:Nat) (acc:Array Value),(∀j,j<vs.length→w.cell? ⟨b,o+i+j,none⟩=vs[j]?)→
  (loadCellsFrom ⟨b,o,none⟩ i vs.length acc).run P w= .ok (acc++vs.toArray) w
 |[],i,acc,_=>by simp[loadCellsFrom,pure]
 |v::vs,i,acc,h=>by
  simp only[qzm,loadCellsFrom]
  have h0:=h 0 (by simp)
  rw[uH (um (v:=v) (by rw[Addr.add_mk];simpa using h0))]
  rw[ga b o w vs (i+1) (acc.push v) (fun j hj=>by
   have:=h (j+1) (by simpa using hj)
   rw[show o+(i+1)+j=o+i+(j+1) by omega,this];simp)]
  simp
theorem me {b size:Nat} (o:Nat):∀(vs:List Value) (i:Nat) {w:World},Own w b size→o+i+vs.length≤size→(∀v∈vs,(∀c,v≠ .agg c)∧(∀c,v≠ .tuple c))→
  (storeCells ⟨b,o,none⟩ vs i).run P w= .ok () (setRow w b (o+i) vs)
 |[],i,w,_,_,_=>by simp[storeCells,pure,setRow]
 |v::vs,i,w,h,hs,hv=>by
  simp only[qzm] at hs
  obtain⟨u,hu⟩:=h.cell (o:=o+i) qom
  have hst:(store (Addr.add ⟨b,o,none⟩ i) v).run P w= .ok () (w.setCell ⟨b,o+i,none⟩ v):=by
   have h1:=hv v (by simp)
   cases v <;> first|exact absurd rfl (h1.1 _)|exact absurd rfl (h1.2 _)|simp[store,Sem.run,Addr.add_mk,hu,h.frozen (o:=o+i)]
  simp only[storeCells]
  rw[uH hst,me o vs (i+1) (h.setCell _ v) qom (fun x hx=>hv x (by simp[hx]))]
  rw[setRow,tq]
end runs

end Go.Vm
/- The relation between a state and the machine's frame and memory; the operations that write no memory. -/
namespace Go.Vm

def ez:TypeDesc→TD→Prop
 | .int k,.int k'=>k=k'
 | .bool,.bool=>True
 | .string,.str=>True
 | .slice e,.slice e'=>e=e'
 | .pointer e,.ptr e'=>e=e'
 | .struct fields,.struct fs=>fields.toList.map (fun f=>(f.offset,f.type))=fs
 | .func _ _ _,.other=>True
 |_,_=>False
/-- a struct of three numbers -/
def wF (P:Program) (t:Nat):Prop:=P.stoodInHeld t=false∧P.eqGuardType P.depth t=false∧∃f0 f1 f2 k0 k1 k2,P.underlying t=some (.struct #[f0,f1,f2])∧f0.offset=0∧f1.offset=1∧f2.offset=2∧
 f0.name ≠ "_" ∧ f1.name ≠ "_" ∧ f2.name ≠ "_" ∧ P.underlying f0.type = some (.int k0) ∧ P.underlying f1.type = some (.int k1) ∧ P.underlying f2.type = some (.int k2)
def TOk (P:Program) (t:Nat) (ti:TI):Prop:=∃i d z,P.info? t=some i∧i.size=ti.size∧i.bytes=ti.bytes∧P.underlying t=some d∧ez d ti.td∧
 i.zero=some z∧ti.zero=z.cells.toList.map A.lit∧ti.zero.length=ti.size
def wh (P:Program) (t:Nat) (ti:TI):Prop:=ti.flat=true→wF P t
structure EOk (P:Program) (E:TE):Prop where
 tok:∀t,((E.info t).size≠0∨iK (E.info t).td=false)→TOk P t (E.info t)
 flat:∀t,wh P t (E.info t)
instance {P:Program} {E:TE}:CoeFun (EOk P E) fun _=>∀t,((E.info t).size≠0∨iK (E.info t).td=false)→TOk P t (E.info t):=⟨EOk.tok⟩

theorem lL {P:Program} {t:TypeId} {i:TypeInfo} (h:P.info? t=some i) (w:World):(typeInfo t).run P w= .ok i w:=by
 simp[typeInfo,h]
theorem eO {P:Program} {t:TypeId} {i:TypeInfo} (h:P.info? t=some i) (w:World):(sizeOf t).run P w= .ok i.size w:=by
 simp[sizeOf,lL h]
theorem rr {P:Program} {t:TypeId} {i:TypeInfo} {z:Value} (h:P.info? t=some i) (hz:i.zero=some z) (w:World):(zeroValue t).run P w= .ok z w:=by
 simp[zeroValue,lL h,hz]
theorem sL {P:Program} {t:TypeId} {d:TypeDesc} {td:TD} (h:P.underlying t=some d) (ht:ez d td) (w:World):(isAgg t).run P w= .ok (qX td) w:=by
 simp only[isAgg,Sem.run_bind,run_underlying h,Result.andThen_ok]
 cases d <;> cases td <;> simp only[ez] at ht <;> rfl

/-- the frame in which code runs: where memory stood when it began, what it was given -/
structure Env where
 w0:World
 own0:Set
 imm0:Set
 n:Nat
 args:List Value
 was:Nat→Nat→Nat→Prop
/-- the rest of a block that a box stands in: the block is new, or the box was handed in, and what lies beside it is as it was -/
def Env.kept (ρ:Env) (w:World) (b o n:Nat):Prop:=ρ.w0.heap.size≤b∨(ρ.was b o n∧∀q,(q<o∨o+n≤q)→w.cell? ⟨b,q,none⟩=ρ.w0.cell? ⟨b,q,none⟩)
def RSp (p:Nat→Nat→Nat→Prop) (i:KI):HN→Prop
 | .box _ cells=>∀b base size,i.loc= .at_ b base size→p b base cells.length
 |_=>True
abbrev RS (ρ:Env) (w:World) (i:KI) (n:HN):Prop:=RSp (ρ.kept w) i n
/-- what stands in a slot; past the slots, what the frame was handed -/
def slotv (ρ:Env) (a:Act) (t:Nat):Value:=if t<1000000 then a.tmps.getD t undef else ρ.args.getD (t-1000000) undef

/-- all rows but one -/
def iq (w:World) (imm:Set) (rows:Rows) (j b base k:Nat) (S:Set):Prop:=
 ∃T1 T2,aq w imm none (rows.take j) b base k T1∧aq w imm none (rows.drop (j+1)) b (base+(j+1) * k) k T2∧Set.le T1 S∧Set.le T2 S∧Set.dis T1 T2
theorem iq.stable {w w':World} {imm imm':Set} (hi:Set.le imm imm') (he:∀b,imm b→w'.heap[b]? =w.heap[b]?) {rows:Rows} {j b base k:Nat} {S:Set} (hb:w'.heap[b]? =w.heap[b]?) (hs:∀b,S b→w'.heap[b]? =w.heap[b]?)
  (h:iq w imm rows j b base k S):iq w' imm' rows j b base k S:=by
 obtain⟨T1,T2,h1,h2,h3,h4,h5⟩:=h
 exact⟨T1,T2,aq.stable hi he none none _ _ _ _ _ _ trivial (Set.le_refl _) hb (fun y hy=>hs y (h3 y hy)) h1,aq.stable hi he none none _ _ _ _ _ _ trivial (Set.le_refl _) hb (fun y hy=>hs y (h4 y hy)) h2,h3,h4,h5⟩
def NR (w:World) (imm:Set) (Λ:Lam) (i:KI):HN→Set→Prop
 | .dead g,_=>i.gen=g∧i.loc= .gone
 | .box g cells,S=>i.gen=g∧i.k=cells.length∧i.n=1∧∃b base size S',i.loc= .at_ b base size∧S b∧¬S' b∧Set.le S' S∧Own w b size∧base+cells.length≤size∧ai w imm (some Λ) cells b base S'
 | .arr g k rows,S=>i.gen=g∧i.k=k∧i.n=rows.length∧((i.loc= .nil∧rows=[])∨∃b base size S',i.loc= .at_ b base size∧S b∧¬S' b∧Set.le S' S∧Own w b size∧base+rows.length * k≤size∧aq w imm none rows b base k S')
 | .opn g k rows j row,S=>i.gen=g∧i.k=k∧i.n=rows.length∧∃b base size S1 S2,i.loc= .at_ b base size∧S b∧¬S1 b∧¬S2 b∧Set.le S1 S∧Set.le S2 S∧Set.dis S1 S2∧Own w b size∧base+rows.length * k≤size∧
   j<rows.length∧row.length=k∧ai w imm (some Λ) row b (base+j * k) S1∧iq w imm rows j b base k S2
 | .fbox g cells,_=>i.gen=g∧i.k=cells.length∧i.n=1∧∃b base size,i.loc= .at_ b base size∧imm b∧ai w imm none cells b base Set.no
 | .farr g k rows,_=>i.gen=g∧i.k=k∧i.n=rows.length∧((i.loc= .nil∧rows=[])∨∃b base size,i.loc= .at_ b base size∧imm b∧aq w imm none rows b base k Set.no)

/-- rows keep their sizes -/
def aO (w w':World):Prop:=∀(b:Nat) (c:Array Value) (e:TypeId) (fr:Nat×Nat),w.heap[b]? =some (.cells c e fr)→∃(c2:Array Value) (e2:TypeId) (fr2:Nat×Nat),w'.heap[b]? =some (.cells c2 e2 fr2)∧c2.size=c.size
theorem aO.refl (w:World):aO w w:=fun _ c e fr h=>⟨c,e,fr,h,rfl⟩
theorem aO.trans {w w' w2:World} (h:aO w w') (h':aO w' w2):aO w w2:=fun b c e fr hb=>by
 obtain⟨c',e',fr',h1,h2⟩:=h b c e fr hb
 obtain⟨c2,e2,fr2,h3,h4⟩:=h' b c' e' fr' h1
 exact⟨c2,e2,fr2,h3,h4.trans h2⟩
theorem aO.same {w w':World} (h:∀b,b<w.heap.size→w'.heap[b]? =w.heap[b]?):aO w w':=fun b c e fr hb=>by
 have:b<w.heap.size:=by
  rcases qzM b w.heap.size with h1|h1
  ·exact h1
  ·rw[AP h1] at hb;cases hb
 exact⟨c,e,fr,by rw[h b this];exact hb,rfl⟩
theorem aO.setRow (b:Nat):∀(us:List Value) (w:World) (p:Nat),aO w (setRow w b p us)
 |[],w,_=>aO.refl w
 |u::us,w,p=>by
  refine aO.trans (fun y c e fr hy=>?_) (aO.setRow b us (w.setCell ⟨b,p,none⟩ u) (p+1))
  by_cases hyb:y=b
  ·subst hyb;exact⟨_,e,fr,nA hy p u,by simp⟩
  ·exact⟨c,e,fr,by rw[sr _ _ _ _ _ hyb];exact hy,rfl⟩

structure aD (ρ:Env) (σ:St) (a:Act) (w:World) (imm:Set) (Λ:Lam) (F:Key→Set):Prop where
 size:a.tmps.size=ρ.n
 nlt:ρ.n≤1000000
 slots:∀t,CR w imm (some Λ) (lkS σ.slots t) (slotv ρ a t) Set.no
 nodes:∀κ:Key,NR w imm Λ (Λ κ) (lkN σ.heap κ.1 κ.2) (F κ)
 dis:∀κ κ',κ≠κ'→Set.dis (F κ) (F κ')
 fimm:∀κ,Set.dis (F κ) imm
 flt:∀κ b,F κ b→b<w.heap.size∧(ρ.own0 b∨ρ.w0.heap.size≤b)
 immlt:∀b,imm b→b<w.heap.size∧(ρ.imm0 b∨ρ.own0 b∨ρ.w0.heap.size≤b)
 imm0:Set.le ρ.imm0 imm
 keep:∀b,b<ρ.w0.heap.size→¬ρ.own0 b→w.heap[b]? =ρ.w0.heap[b]?
 grow:ρ.w0.heap.size≤w.heap.size
 os:w.os=ρ.w0.os∧w.output=ρ.w0.output∧w.tape=ρ.w0.tape∧aO ρ.w0 w
 defers:a.defers=[]
 rs:∀κ:Key,RS ρ w (Λ κ) (lkN σ.heap κ.1 κ.2)
theorem Env.kept.same {ρ:Env} {w w':World} {b o n:Nat} (h:ρ.kept w b o n) (hw:w'.heap[b]? =w.heap[b]?):ρ.kept w' b o n:=
 h.imp id fun h=>⟨h.1,fun q hq=>by rw[cell?_same hw];exact h.2 q hq⟩
/-- a node that stays, in a world that leaves it alone -/
theorem RS.stable {ρ:Env} {w w':World} {imm:Set} {Λ:Lam} {i i':KI} {n:HN} {S:Set} (h:RS ρ w i n) (hN:NR w imm Λ i n S) (hw:∀b,S b→w'.heap[b]? =w.heap[b]?) (hl:i'.gen=i.gen→i'.loc= .gone∨i'=i) (hg:i'.gen=i.gen):RS ρ w' i' n:=by
 cases n <;> try trivial
 rename_i g cells
 intro b base size e
 rcases hl hg with h1|h1
 ·rw[h1] at e;cases e
 ·subst h1
  simp only[NR] at hN
  obtain⟨_,_,_,b',base',size',S',e',hb,_⟩:=hN
  rw[e] at e'
  cases e'
  exact(h b base size e).same (hw b hb)
theorem RSp.imp {p p':Nat→Nat→Nat→Prop} {w:World} {imm:Set} {Λ:Lam} {i:KI} {n:HN} {S:Set} (h:RSp p i n) (hN:NR w imm Λ i n S) (hp:∀b o k,S b→p b o k→p' b o k):RSp p' i n:=by
 cases n <;> try trivial
 rename_i g cells
 intro b base size e
 simp only[NR] at hN
 obtain⟨_,_,_,b',base',size',S',e',hb,_⟩:=hN
 rw[e] at e'
 cases e'
 exact hp _ _ _ hb (h b base size e)
def Rel (ρ:Env) (σ:St) (a:Act) (w:World):Prop:=∃imm Λ F,aD ρ σ a w imm Λ F

theorem dD (t u:Nat) (a:A) (l:List (Nat×A)):lkS ((u,a)::l) t=if t=u then a else lkS l t:=rfl
theorem aP (κ:Key) (n:HN) (l:List (Key×HN)) (x:Key):lkN ((κ,n)::l) x.1 x.2=if x=κ then n else lkN l x.1 x.2:=by
 obtain⟨u,v⟩:=κ
 obtain⟨a,b⟩:=x
 simp only[lkN,oM]
 by_cases h:a=u <;> by_cases h':b=v <;> simp[h,h']

theorem lE {p:Nat→Nat→Nat→Prop} {Λ:Lam} {σ:St} {κ:Key} {n:HN} (h:RSp p (Λ κ) n) (h':∀x,x≠κ→RSp p (Λ x) (lkN σ.heap x.1 x.2)):∀x:Key,RSp p (Λ x) (lkN (σ.upd1 (.n κ n)).heap x.1 x.2):=fun x=>by
 show RSp _ _ (lkN ((κ,n)::σ.heap) x.1 x.2)
 rw[aP]
 by_cases e:x=κ
 ·subst e;rw[if_pos rfl];exact h
 ·rw[if_neg e];exact h' x e
theorem CR.mono {w:World} {imm:Set} {x:Option Lam} {a:A} {v:Value} {S T:Set} (h:CR w imm x a v S) (hS:Set.le S T):CR w imm x a v T:=
 CR.stable (Set.le_refl _) (fun _ _=>rfl) x x a v S T (bF?.refl x) hS (fun _ _=>rfl) h
theorem ai.mono {w:World} {imm:Set} {x:Option Lam} {cs:List A} {b o:Nat} {S T:Set} (h:ai w imm x cs b o S) (hS:Set.le S T):ai w imm x cs b o T:=
 ai.stable (Set.le_refl _) (fun _ _=>rfl) x x cs b o S T (bF?.refl x) hS rfl (fun _ _=>rfl) h
theorem aq.mono {w:World} {imm:Set} {x:Option Lam} {cs:Rows} {b o k:Nat} {S T:Set} (h:aq w imm x cs b o k S) (hS:Set.le S T):aq w imm x cs b o k T:=
 aq.stable (Set.le_refl _) (fun _ _=>rfl) x x cs b o k S T (bF?.refl x) hS rfl (fun _ _=>rfl) h
theorem af.mono {w:World} {imm:Set} {x:Option Lam} {cs:List A} {vs:List Value} {S T:Set} (h:af w imm x cs vs S) (hS:Set.le S T):af w imm x cs vs T:=
 af.stable (Set.le_refl _) (fun _ _=>rfl) x x cs vs S T (bF?.refl x) hS (fun _ _=>rfl) h

/-- a value laid into a slot -/
theorem aD.put {ρ:Env} {σ:St} {a:Act} {w:World} {imm:Set} {Λ:Lam} {F:Key→Set} (h:aD ρ σ a w imm Λ F) {d:Option Nat} {x:A} {v:Value}
  (hd:∀t,d=some t→t<ρ.n) (hv:CR w imm (some Λ) x v Set.no):aD ρ (σ.upd (Vm.put d x)) (a.put d v) w imm Λ F:=by
 cases d with
 |none=>exact h
 |some t=>
  have ht:=hd t rfl
  refine{ h with size:=by simp[Act.put,h.size],slots:=fun u=>?_ }
  show CR w imm (some Λ) (lkS ((t,x)::σ.slots) u) _ _
  rw[dD]
  have hn:=h.nlt
  by_cases e:u=t
  ·subst e
   rw[if_pos rfl]
   have hu:u<1000000:=by omega
   simpa [slotv,hu,Act.put,qzr,h.size,ht] using hv
  ·rw[if_neg e]
   have:=h.slots u
   unfold slotv at this⊢
   split at this
   ·rename_i hu
    rw[if_pos hu]
    simpa [Act.put,qzr,Array.getElem?_setIfInBounds_ne (fun x=>e x.symm)] using this
   ·rename_i hu
    rw[if_neg hu]
    exact this
/-- what an operation comes to -/
def bG (P:Program) (ρ:Env) (σ:St) (K:List W→Prop) (o:Oper) (a:Act) (w:World) (Q:Exit→Act→World→Prop):Prop:=
 o.wp P a w (fun a' w'=>∃ws,K ws∧Rel ρ (σ.upd ws) a' w') Q∨(o.asks P a w∧LetsOut Q)

theorem aR {P:Program} {ρ:Env} {σ:St} {K:List W→Prop} {o:Oper} {a:Act} {w:World} {Q:Exit→Act→World→Prop} {imm:Set} {Λ:Lam} {F:Key→Set}
  (h:aD ρ σ a w imm Λ F) (hd:∀t,o.dst=some t→t<ρ.n) {x:A} {v:Value} (hr:(execOp a.eval o).run P w= .ok (.value v) w) (hv:CR w imm (some Λ) x v Set.no)
  (hK:K (Vm.put o.dst x)):bG P ρ σ K o a w Q:=by
 refine .inl ?_
 simp only[Oper.wp,hr,Oper.upon]
 exact⟨_,hK,_,_,_,h.put hd hv⟩

/-- operands -/
theorem cst_R {w:World} {imm:Set} {x:Option Lam} (v:Value):CR w imm x (cst v) v Set.no:=by
 cases v <;> simp only[cst,CR]
 rename_i cs
 refine⟨cs.toList,by simp,?_⟩
 generalize cs.toList=l
 induction l with
 |nil=>simp[af]
 |cons c l ih=>simp only[qzG,af];exact⟨Set.no,Set.no,by simp only[CR],ih,Set.le_refl _,Set.le_refl _,Set.no_dis _⟩
theorem aD.opd {ρ:Env} {σ:St} {a:Act} {w:World} {imm:Set} {Λ:Lam} {F:Key→Set} (h:aD ρ σ a w imm Λ F) {x:Operand} {f:A→Pg} {K:List W→Prop}
  (hh:(Vm.opd x f).holds σ K):∃y,CR w imm (some Λ) y (a.eval x) Set.no∧(f y).holds σ K:=by
 cases x with
 |tmp t=>
  simp only[Vm.opd] at hh
  split at hh
  ·rename_i ht
   have ht':t<1000000:=by simpa [Nat.blt_eq] using ht
   have:=h.slots t
   unfold slotv at this
   rw[if_pos ht'] at this
   exact⟨_,this,hh⟩
  ·exact hh.elim
 |const v=>exact⟨_,cst_R v,hh⟩
 |global g=>exact hh.elim
 |func g=>exact⟨_,by simp only[CR];exact⟨[],rfl,by simp[af]⟩,hh⟩
theorem aD.opd2 {ρ:Env} {σ:St} {a:Act} {w:World} {imm:Set} {Λ:Lam} {F:Key→Set} (h:aD ρ σ a w imm Λ F) {x y:Operand} {f:A→A→Pg} {K:List W→Prop}
  (hh:(Vm.opd x fun u=>Vm.opd y fun v=>f u v).holds σ K):∃u v,CR w imm (some Λ) u (a.eval x) Set.no∧CR w imm (some Λ) v (a.eval y) Set.no∧(f u v).holds σ K:=by
 obtain⟨u,hu,h1⟩:=h.opd hh
 obtain⟨v,hv,h2⟩:=h.opd h1
 exact⟨u,v,hu,hv,h2⟩
theorem aD.opds {ρ:Env} {σ:St} {a:Act} {w:World} {imm:Set} {Λ:Lam} {F:Key→Set} (h:aD ρ σ a w imm Λ F):∀{xs:List Operand} {f:List A→Pg} {K:List W→Prop},
  (Vm.opds xs f).holds σ K→∃ys,af w imm (some Λ) ys (xs.map a.eval) Set.no∧(f ys).holds σ K
 |[],_,_,hh=>⟨[],by simp[af],hh⟩
 |x::xs,f,K,hh=>by
  obtain⟨y,hy,h1⟩:=h.opd hh
  obtain⟨ys,hys,h2⟩:=h.opds h1
  exact⟨y::ys,by simp only[qzG,af];exact⟨Set.no,Set.no,hy,hys,Set.le_refl _,Set.le_refl _,Set.no_dis _⟩,h2⟩

end Go.Vm
/- The operations that compute with numbers, bools and strings. -/
namespace Go.Vm

def dG (op:BinOp) (k:IntKind) (a b:Int):Int:=match op with
 | .shl=>k.wrap (a * 2 ^ (min b.toNat k.bits))
 | .shr=>a.fdiv (2 ^ (min b.toNat k.bits))
 | .quo=>k.wrap (a.tdiv b)
 | .rem=>a.tmod b
 | .xor=>k.wrap ((BitVec.ofInt k.bits a ^^^ BitVec.ofInt k.bits b).toNat)
 | .and=>k.wrap ((BitVec.ofInt k.bits a &&& BitVec.ofInt k.bits b).toNat)
 | .or=>k.wrap ((BitVec.ofInt k.bits a ||| BitVec.ofInt k.bits b).toNat)
 |_=>0
/-- the symbols as they are meant -/
def au (Fn:FuncId→List A→List A→A→Prop) (LW:Code→(Ex→St→Prop)→St→Prop) (IN:InT):Ctx where
 Fn:=Fn
 LW:=LW
 IN:=IN
 len:=List.length
 cast:=fun n=>n
 toNat:=Int.toNat
 wrap:=IntKind.wrap
 add:=fun a b=>a+b
 sub:=fun a b=>a-b
 mul:=fun a b=>a * b
 bin:=dG
 lt:=fun a b=>decide (a<b)
 eq:=fun a b=>a==b
 At:=fun rows i row=>rows[i]? =some row
 set:=List.set
 part:=fun rows i n=>(rows.drop i).take n
 app:=fun a b=>a++b
 fz:=aA
 rep:=List.replicate
 nadd:=fun a b=>a+b
 nmax:=fun a b=>max a b
 ssize:=ByteArray.size
 sext:=ByteArray.extract
 sget:=fun s i=>(s[i]!).toNat
 scat:=fun a b=>a++b
 seq:=fun a b=>a.toList==b.toList
 slt:=fun a b=>Op.bytesLess a.toList b.toList
 Wide:=fun rows k=>∀r∈rows,r.length=k
 Flat:=fun rows=>∀r∈rows,∀c∈r,plain c=true
 Ones:=fun rows=>∀r∈rows,∀c∈r,fV c=true
 Room:=fun n b=>n * b≤140737488355328

section
variable {P:Program} {E:TE} {Fn:FuncId→List A→List A→A→Prop} {LW:Code→(Ex→St→Prop)→St→Prop} {IN:InT} {ρ:Env} {σ:St} {K:List W→Prop} {o:Oper} {a:Act} {w:World} {Q:Exit→Act→World→Prop} {imm:Set} {Λ:Lam} {F:Key→Set}

theorem bM {x:Option Lam} {v u:Value} {S:Set} (h:CR w imm x (.lit v) u S):u=v:=by simpa only[CR] using h
theorem eV {x:Option Lam} {v:Value} {S:Set}:CR w imm x (.lit v) v S:=by simp only[CR]

theorem vO (h:aD ρ σ a w imm Λ F) (hd:∀t,o.dst=some t→t<ρ.n) {x:Operand} (ho:o.op= .move x∨o.op= .assign x)
  (hh:(opd x fun y=>.done (put o.dst y)).holds σ K):bG P ρ σ K o a w Q:=by
 obtain⟨y,hy,hk⟩:=h.opd hh
 rcases ho with ho|ho <;> exact aR h hd (by simp[execOp,ho]) hy hk

theorem Dv (h:aD ρ σ a w imm Λ F) (hd:∀t,o.dst=some t→t<ρ.n) {c x y:Operand} (ho:o.op= .pick c x y)
  (hh:(opd c fun c=>opd x fun x=>opd y fun y=>wQ o.dst c x y).holds σ K):bG P ρ σ K o a w Q:=by
 obtain⟨c',hc,hk0⟩:=h.opd hh
 obtain⟨x',y',hx,hy,hk⟩:=h.opd2 hk0
 clear hk0 hh
 have hb:∃b,c'= .lit (.bool b):=by
  unfold wQ at hk
  split at hk
  ·exact⟨_,rfl⟩
  ·exact hk.elim
 obtain⟨b,rfl⟩:=hb
 replace hc:=bM hc
 have hrun:(execOp a.eval o).run P w= .ok (.value (if b then a.eval x else a.eval y)) w:=by simp[execOp,ho,hc,asBool]
 have hboth:(b=true→K (put o.dst x'))∧(b=false→K (put o.dst y'))→bG P ρ σ K o a w Q:=by
  intro hb
  cases b
  ·exact aR h hd hrun (by simpa using hy) (hb.2 rfl)
  ·exact aR h hd hrun (by simpa using hx) (hb.1 rfl)
 simp only[wQ] at hk
 split at hk
 ·rename_i p q
  replace hx:=bM hx
  replace hy:=bM hy
  refine aR h hd hrun (x:=.lit (.bool (cond b p q))) ?_ hk
  rw[hx,hy]
  cases b <;> simp only[CR] <;> rfl
 ·exact hboth (by cases b;exact⟨(fun e=>by cases e),fun _=>hk⟩;exact⟨fun _=>hk,fun e=>by cases e⟩)

theorem FW (h:aD ρ σ a w imm Λ F) (hd:∀t,o.dst=some t→t<ρ.n) {op:UnOp} {t:TypeId} {x:Operand} (ho:o.op= .unOp op t x)
  (hh:(opd x fun x=>GU (au Fn LW IN) o.dst op x).holds σ K):bG P ρ σ K o a w Q:=by
 obtain⟨x',hx,hk⟩:=h.opd hh
 unfold GU at hk
 split at hk
 ·split at hk
  ·exact aR h hd (by simp[execOp,ho,bM hx,Op.unary]) eV hk
  ·exact hk.elim
 ·split at hk
  ·exact aR h hd (by simp[execOp,ho,bM hx,Op.unary,Op.intArith,au]) eV hk
  ·exact hk.elim
 ·exact hk.elim

theorem fS {op:BinOp} {t:TypeId} {x y:Operand} {u v:Value} (h1:∀c,u≠ .agg c) (h2:u≠ .nilIface):(eqGuard op t x y u v).run P w= .ok () w:=by
 unfold eqGuard
 cases u <;> first|exact absurd rfl (h1 _)|exact absurd rfl h2|(cases op <;> rfl)

theorem Ii:IntKind.i64.max=9223372036854775807:=by decide
theorem GO {t:TypeId} {p q:ByteArray} (hs:p.size+q.size≤9223372036854775807):(binOp .add t (.string p) (.string q)).run P w= .ok (.string (p++q)) w:=by
 have h:¬(((p.size+q.size:Nat):Int)>IntKind.i64.max):=by rw[Ii];omega
 show(Op.stringOp .add p q).run P w=_
 unfold Op.stringOp
 show(if((p.size+q.size:Nat):Int)>IntKind.i64.max then _ else _:Sem Value).run P w=_
 rw[if_neg h]
 rfl
theorem vv {t:TypeId} {p q:Bool} (hu:P.underlying t=some .bool) (n:Nat):(Op.equalIn (n+1) t (.bool p) (.bool q)).run P w= .ok (p==q) w:=by
 simp only[Op.equalIn,Sem.run_bind,run_underlying hu,Result.andThen_ok]
 rfl
theorem xN {t:TypeId} {p q:Bool} (hu:P.underlying t=some .bool):(Op.equal t (.bool p) (.bool q)).run P w= .ok (p==q) w:=by
 obtain⟨n,hn⟩:∃n,Op.maxDepth=n+1:=⟨9999,rfl⟩
 rw[Op.equal,hn]
 exact vv hu n
theorem og {t:TypeId} {k:IntKind} (hu:P.underlying t=some (.int k)) {cs:Array Value} {off:Nat} {v:Value} (h:cs[off]? =some v):(part t cs off).run P w= .ok v w:=by
 simp[part,isAgg,run_underlying hu,h]
theorem lP {t:TypeId} {k k':IntKind} (hu:P.underlying t=some (.int k')) (p q:Int) (n:Nat):(Op.equalIn (n+1) t (.int k p) (.int k q)).run P w= .ok (p==q) w:=by
 simp[Op.equalIn,run_underlying hu]
theorem yf {t:TypeId} (hf:wF P t) {k0 k1 k2:IntKind} {p0 p1 p2 q0 q1 q2:Int} :
  (Op.equal t (.agg #[.int k0 p0,.int k1 p1,.int k2 p2]) (.agg #[.int k0 q0,.int k1 q1,.int k2 q2])).run P w= .ok (p0==q0&&(p1==q1&&p2==q2)) w:=by
 obtain⟨h1,_,f0,f1,f2,j0,j1,j2,hu,o0,o1,o2,n0,n1,n2,u0,u1,u2⟩:=hf
 obtain⟨n,hn⟩:∃n,Op.maxDepth=n+2:=⟨9998,rfl⟩
 rw[Op.equal,hn,Op.equalIn]
 simp only[Sem.run_bind,run_underlying hu,Result.andThen_ok]
 simp[h1,n0,n1,n2,o0,o1,o2,og u0,og u1,og u2,lP u0,lP u1,lP u2]
 by_cases e0:p0=q0 <;> by_cases e1:p1=q1 <;> by_cases e2:p2=q2 <;> simp[e0,e1,e2]
theorem vi {op:BinOp} {t:TypeId} (hf:wF P t) {x y:Operand} {u v:Array Value}:(eqGuard op t x y (.agg u) (.agg v)).run P w= .ok () w:=by
 unfold eqGuard
 cases op <;> first|rfl|simp[hf.2.1]
theorem oy {Fn:FuncId→List A→List A→A→Prop} {LW:Code→(Ex→St→Prop)→St→Prop} {IN:InT} {x y:A} {xs ys:List A} {r:Bool} (h:lx (au Fn LW IN) (x::xs) (y::ys)=some r) :
  ∃k p q s,x= .lit (.int k p)∧y= .lit (.int k q)∧lx (au Fn LW IN) xs ys=some s∧r=(p==q&&s):=by
 unfold lx at h
 split at h
 ·rename_i a1 a2;cases a1
 ·rename_i k p xs' k' q ys' a1 a2
  cases a1;cases a2
  split at h
  ·rename_i hk;subst hk
   split at h
   ·rename_i s hs
    refine⟨k,p,q,s,rfl,rfl,hs,?_⟩
    cases h
    by_cases e:p=q <;> simp[au,e]
   ·cases h
  ·cases h
 ·cases h
theorem EA {Fn:FuncId→List A→List A→A→Prop} {LW:Code→(Ex→St→Prop)→St→Prop} {IN:InT} {xs ys:List A} {b:Bool} (h:lx (au Fn LW IN) xs ys=some b) (hx:xs.length=3) (hy:ys.length=3) :
  ∃k0 k1 k2 p0 p1 p2 q0 q1 q2,xs=[.lit (.int k0 p0),.lit (.int k1 p1),.lit (.int k2 p2)]∧ys=[.lit (.int k0 q0),.lit (.int k1 q1),.lit (.int k2 q2)]∧b=(p0==q0&&(p1==q1&&p2==q2)):=by
 match xs,ys,hx,hy with
 |[x0,x1,x2],[y0,y1,y2],_,_=>
  obtain⟨k0,p0,q0,s0,rfl,rfl,h0,rfl⟩:=oy h
  obtain⟨k1,p1,q1,s1,rfl,rfl,h1,rfl⟩:=oy h0
  obtain⟨k2,p2,q2,s2,rfl,rfl,h2,rfl⟩:=oy h1
  simp only[lx,qzh] at h2
  subst h2
  exact⟨k0,k1,k2,p0,p1,p2,q0,q1,q2,rfl,rfl,by simp⟩
theorem wk {x:Option Lam} {S:Set} {u v t:Value} {vs:List Value} (h:af w imm x [.lit u,.lit v,.lit t] vs S):vs=[u,v,t]:=by
 match vs with
 |[]=>simp only[af] at h
 |[_]=>simp only[af] at h;obtain⟨_,_,_,h,_⟩:=h;exact h.elim
 |[_,_]=>simp only[af] at h;obtain⟨_,_,_,⟨_,_,_,h,_⟩,_⟩:=h;exact h.elim
 |_::_::_::_::_=>simp only[af] at h;obtain⟨_,_,_,⟨_,_,_,⟨_,_,_,h,_⟩,_⟩,_⟩:=h;exact h.elim
 |[a,b,c]=>
  simp only[af] at h
  obtain⟨_,_,h1,⟨_,_,h2,⟨_,_,h3,_⟩,_⟩,_⟩:=h
  rw[bM h1,bM h2,bM h3]
end
end Go.Vm
/- The operations that read, and those that compute addresses. -/
namespace Go.Vm

theorem qe:∀(o n:Nat) (cs ds:List A),cut o n cs=some ds→ds.length=n
 |_,0,_,ds,h=>by simp[cut] at h;subst h;rfl
 |0,n+1,c::cs,ds,h=>by
  simp only[cut,qzY] at h
  obtain⟨e,he,rfl⟩:=h
  simp[qe 0 n cs e he]
 |o+1,n+1,_::cs,ds,h=>qe o (n+1) cs ds (by simpa only[cut] using h)
 |0,_+1,[],ds,h=>by simp[cut] at h
 |_+1,_+1,[],ds,h=>by simp[cut] at h

theorem ai.cut {w:World} {imm:Set} {x:Option Lam} {b:Nat}:∀(o n:Nat) (cs ds:List A) (p:Nat) (S:Set),Vm.cut o n cs=some ds→ai w imm x cs b p S→ai w imm x ds b (p+o) S
 |_,0,_,ds,p,S,h,_=>by simp[Vm.cut] at h;subst h;simp only[ai]
 |0,n+1,c::cs,ds,p,S,h,hr=>by
  simp only[Vm.cut,qzY] at h
  obtain⟨e,he,rfl⟩:=h
  simp only[ai] at hr⊢
  obtain⟨v,S1,S2,h1,h2,h3,h4,h5,h6⟩:=hr
  exact⟨v,S1,S2,h1,h2,ai.cut 0 n cs e (p+1) S2 he h3,h4,h5,h6⟩
 |o+1,n+1,_::cs,ds,p,S,h,hr=>by
  simp only[Vm.cut] at h
  simp only[ai] at hr
  obtain⟨v,S1,S2,h1,h2,h3,h4,h5,h6⟩:=hr
  have:=ai.cut o (n+1) cs ds (p+1) S2 h h3
  rw[show p+(o+1)=p+1+o by omega]
  exact this.mono h5
 |0,_+1,[],ds,p,S,h,_=>by simp[Vm.cut] at h
 |_+1,_+1,[],ds,p,S,h,_=>by simp[Vm.cut] at h

theorem ai.vals {w:World} {imm:Set} {x:Option Lam} {b:Nat}:∀(cs:List A) (o:Nat) (S:Set),ai w imm x cs b o S→
  ∃vs:List Value,vs.length=cs.length∧(∀j,j<vs.length→w.cell? ⟨b,o+j,none⟩=vs[j]?)∧af w imm x cs vs S
 |[],o,S,_=>⟨[],rfl,by simp,by simp only[af]⟩
 |c::cs,o,S,h=>by
  simp only[ai] at h
  obtain⟨v,S1,S2,h1,h2,h3,h4,h5,h6⟩:=h
  obtain⟨vs,hl,hc,hv⟩:=ai.vals cs (o+1) S2 h3
  refine⟨v::vs,by simp[hl],fun j hj=>?_,by simp only[af];exact⟨S1,S2,h2,hv,h4,h5,h6⟩⟩
  cases j with
  |zero=>simpa using h1
  |succ j=>have:=hc j (by simpa using hj);simpa [tq,Nat.add_comm 1 j] using this

theorem aq.at {w:World} {imm:Set} {x:Option Lam} {b k:Nat}:∀(rs:Rows) (o i:Nat) (S:Set) (r:List A),aq w imm x rs b o k S→rs[i]? =some r→
  r.length=k∧ai w imm x r b (o+i * k) S
 |[],_,_,_,_,_,h=>by simp at h
 |q::rs,o,0,S,r,hr,h=>by
  simp only[aq] at hr
  obtain⟨S1,S2,h1,h2,h3,h4,h5,h6⟩:=hr
  simp at h;subst h
  exact⟨h1,by simpa using h2.mono h4⟩
 |q::rs,o,i+1,S,r,hr,h=>by
  simp only[aq] at hr
  obtain⟨S1,S2,h1,h2,h3,h4,h5,h6⟩:=hr
  obtain⟨a,c⟩:=aq.at rs (o+k) i S2 r h3 (by simpa using h)
  exact⟨a,by rw[show o+(i+1) * k=o+k+i * k by rw[qzJ];omega];exact c.mono h5⟩

/-- a cell that owns nothing owns nothing -/
theorem CR.plain {w:World} {imm:Set} {x:Option Lam} {a:A} {v:Value} {S:Set} (hp:plain a=true) (h:CR w imm x a v S):CR w imm x a v Set.no:=by
 cases x <;> cases a <;> simp only[Vm.plain,qzw] at hp <;> simp only[CR] at h⊢ <;> exact h
theorem af.plain {w:World} {imm:Set} {x:Option Lam}:∀{cs:List A} {vs:List Value} {S:Set},cs.all Vm.plain=true→af w imm x cs vs S→af w imm x cs vs Set.no
 |[],[],_,_,_=>by simp only[af]
 |[],_::_,_,_,h=>by simp only[af] at h
 |_::_,[],_,_,h=>by simp only[af] at h
 |c::cs,v::vs,S,hp,h=>by
  simp only[qzK,qzf] at hp
  simp only[af] at h⊢
  obtain⟨S1,S2,h1,h2,_⟩:=h
  exact⟨Set.no,Set.no,h1.plain hp.1,af.plain hp.2 h2,Set.le_refl _,Set.le_refl _,Set.no_dis _⟩

theorem eG.at {i:KI} {g j off:Nat} {u:Value} (h:eG i g j off u) (hg:i.gen=g) (hl:i.loc≠ .gone):∃b base size,i.loc= .at_ b base size∧u= .pointer (some ⟨b,base+j * i.k+off,none⟩):=by
 have h3:=h.2.1 hg.symm
 cases hl':i.loc with
 |gone=>exact absurd hl' hl
 |nil=>rw[hl'] at h3;exact h3.elim
 |at_ b base size=>rw[hl'] at h3;exact⟨b,base,size,rfl,h3⟩

section
variable {P:Program} {E:TE} {Fn:FuncId→List A→List A→A→Prop} {LW:Code→(Ex→St→Prop)→St→Prop} {IN:InT} {ρ:Env} {σ:St} {K:List W→Prop} {o:Oper} {a:Act} {w:World} {Q:Exit→Act→World→Prop} {imm:Set} {Λ:Lam} {F:Key→Set}

theorem bS {α:Type} {x:Option α} {f:α→Pg} (h:(oo x f).holds σ K):∃y,x=some y∧(f y).holds σ K:=by
 cases x with
 |none=>exact h.elim
 |some y=>exact⟨y,rfl,h⟩
theorem aD.live (h:aD ρ σ a w imm Λ F) {κ:Key} {g:Nat} {p:Pg} (hh:(Vm.live κ g p).holds σ K):(Λ κ).gen=g∧(Λ κ).loc≠ .gone∧p.holds σ K:=by
 have hn:=h.nodes κ
 simp only[Vm.live,Pg.holds] at hh
 generalize lkN σ.heap κ.1 κ.2=n at hh hn
 split at hh
 ·rename_i ha
  refine⟨?_,?_,hh⟩
  ·cases n <;> simp only[DC,beq_iff_eq,qzw] at ha <;> simp only[NR] at hn <;> rw[hn.1,ha]
  ·cases n <;> simp only[DC,beq_iff_eq,qzw] at ha <;> simp only[NR] at hn
   ·obtain⟨_,_,_,b,base,size,S',e,_⟩:=hn;rw[e];simp
   ·obtain⟨_,_,_,hn⟩:=hn
    rcases hn with⟨e,_⟩|⟨b,base,size,S',e,_⟩ <;> rw[e] <;> simp
   ·obtain⟨_,_,_,b,base,size,S1,S2,e,_⟩:=hn;rw[e];simp
   ·obtain⟨_,_,_,b,base,size,e,_⟩:=hn;rw[e];simp
   ·obtain⟨_,_,_,hn⟩:=hn
    rcases hn with⟨e,_⟩|⟨b,base,size,e,_⟩ <;> rw[e] <;> simp
 ·exact hh.elim

theorem CE (hE:EOk P E) (h:aD ρ σ a w imm Λ F) (hd:∀t,o.dst=some t→t<ρ.n) {s f:Nat} {x:Operand} (ho:o.op= .fieldAddr s x f)
  (hh:(opd x fun x=>xU E o.dst s f x).holds σ K):bG P ρ σ K o a w Q:=by
 obtain⟨x',hx,hk⟩:=h.opd hh
 clear hh
 unfold xU at hk
 split at hk
 ·rename_i fs hfs
  obtain⟨⟨p,u⟩,hf,hk⟩:=bS hk
  simp only at hk
  split at hk
  ·exact hk.elim
  ·rename_i hu
   obtain⟨i,d,z,hi,_,_,hd',htd,_⟩:=hE s (.inr (by rw[hfs];rfl))
   obtain⟨i',d',z',hi',hsz,_⟩:=hE u (.inl hu)
   rw[hfs] at htd
   cases d <;> simp only[ez] at htd
   rename_i fields
   have hfl:∃fld:Field,fields[f]? =some fld∧fld.offset=p∧fld.type=u:=by
    rw[←htd] at hf
    simp only[qzC,qzY,oM,sv] at hf
    exact hf
   obtain⟨fld,hfl,rfl,rfl⟩:=hfl
   have hrun:∀b q,a.eval x= .pointer (some ⟨b,q,none⟩)→(execOp a.eval o).run P w= .ok (.value (.pointer (some ⟨b,q+fld.offset,none⟩))) w:=by
    intro b q e
    have:i'.size≠0:=by rw[hsz];exact hu
    simp[execOp,ho,Instr.fieldAt,run_underlying hd',hfl,e,Instr.sureAddr,fieldPlace,eO hi',this,Addr.add_mk]
   split at hk
   ·rename_i κ g j off
    obtain⟨h1,h2,hk⟩:=h.live hk
    simp only[CR] at hx
    obtain⟨b,base,size,hl,e⟩:=eG.at hx h1 h2
    exact aR h hd (hrun _ _ e) (by simp only[CR,eG,hl];exact⟨h1▸qzi _,fun _=>by rw[tq],_,rfl⟩) hk
   ·rename_i row off
    simp only[CR] at hx
    obtain⟨b,q,e,hb,hr⟩:=hx
    exact aR h hd (hrun _ _ e) (by simp only[CR];exact⟨b,q,by rw[tq],hb,hr⟩) hk
   ·exact hk.elim
 ·exact hk.elim

theorem aD.node (h:aD ρ σ a w imm Λ F) {κ:Key} {f:HN→Pg} (hh:(Pg.gn κ f).holds σ K):∃n,lkN σ.heap κ.1 κ.2=n∧NR w imm Λ (Λ κ) n (F κ)∧(f n).holds σ K:=
 ⟨_,rfl,h.nodes κ,hh⟩

theorem eB.at {i:KI} {g j n m:Nat} {u:Value} (h:eB i g j n u) (hg:i.gen=g) (hl:i.loc≠ .gone) (hm:m<n):∃b base size cap,i.loc= .at_ b base size∧n≤cap∧j+n≤i.n∧base+j * i.k+cap * i.k≤size∧u= .slice (some ⟨b,base+j * i.k,none⟩) n cap:=by
 have h3:=h.2.1 hg.symm
 cases hl':i.loc with
 |gone=>exact absurd hl' hl
 |nil=>rw[hl'] at h3;omega
 |at_ b base size=>
  rw[hl'] at h3
  obtain⟨o,cap,e,h4,h5,h6,h7⟩:=h3
  rcases h7 with h7|⟨rfl,h8⟩
  ·omega
  ·exact⟨b,base,size,cap,rfl,h4,h5,h8,e⟩

theorem uo {t e:Nat} {i:TypeInfo} (ht:P.underlying t=some (.slice e)) (hi:P.info? e=some i) {b p n cap:Nat} {k:IntKind} {m:Int} (h0:0≤m) (h1:m<n) :
  (Instr.indexAt t (.slice (some ⟨b,p,none⟩) n cap) (.int k m)).run P w= .ok (.pointer (some ⟨b,p+m.toNat * i.size,none⟩)) w:=by
 have hm:0≤m∧m<(n:Int):=⟨h0,h1⟩
 simp only[Instr.indexAt,asIntOf,Sem.run_bind,Sem.run_pure,Result.andThen_ok,run_underlying ht,if_pos hm,eO hi,Addr.add_mk]

theorem Cy (hE:EOk P E) (h:aD ρ σ a w imm Λ F) (hd:∀t,o.dst=some t→t<ρ.n) {t:Nat} {x y:Operand} (ho:o.op= .indexAddr t x y)
  (hh:(opd x fun x=>opd y fun y=>xL E (au Fn LW IN) o.dst t x y).holds σ K):bG P ρ σ K o a w Q:=by
 obtain⟨x',y',hx,hy,hk⟩:=h.opd2 hh
 clear hh
 unfold xL at hk
 split at hk
 ·rename_i e k m htd
  replace hy:=bM hy
  obtain⟨i,d,z,_,_,_,hd',htd',_⟩:=hE t (.inr (by rw[htd];rfl))
  rw[htd] at htd'
  cases d <;> simp only[ez] at htd'
  rename_i el
  obtain rfl:e=el:=htd'.symm
  split at hk
  ·rename_i rows
   obtain⟨row,h0,hrow,hk⟩:=hk
   replace h0:¬m<0:=by simpa [au] using h0
   replace hrow:rows[m.toNat]? =some row:=hrow
   split at hk
   ·rename_i hlen
    obtain⟨hlen,hz⟩:=hlen
    obtain⟨i',d',z',hi',hsz,_⟩:=hE _ (.inl hz)
    simp only[CR] at hx
    obtain⟨ad,cap,e1,h2,h3⟩:=hx
    have hlt:m.toNat<rows.length:=(List.getElem?_eq_some_iff.1 hrow).1
    rcases h3 with rfl|⟨b,p,k',rfl,hb,hr⟩
    ·simp at hlt
    obtain⟨hk',hc⟩:=aq.at _ _ _ _ _ hr hrow
    refine aR h hd (x:=.iptr row 0) (v:=.pointer (some ⟨b,p+m.toNat * i'.size,none⟩)) ?_ ?_ hk
    ·have hrun:=uo (P:=P) (w:=w) (b:=b) (p:=p) (n:=rows.length) (cap:=cap) (k:=k) (m:=m) hd' hi' qom qom
     simp only[execOp,ho,hy,e1,Sem.run_bind,hrun,Result.andThen_ok,Sem.run_pure]
    ·simp only[CR];exact⟨b,p+m.toNat * i'.size,rfl,hb,by rw[hsz,←hlen,hk'];exact hc⟩
   ·exact hk.elim
  ·rename_i κ g j n
   obtain⟨nd,hnd,hN,hk⟩:=h.node hk
   have key:∀{k'},(Λ κ).gen=g→(Λ κ).k=k'→(Λ κ).loc≠ .gone→k'=(E.info e).size∧(E.info e).size≠0→
     (Pg.need ((au Fn LW IN).lt m 0=false) (Pg.need ((au Fn LW IN).lt m ((au Fn LW IN).cast n)=true) (.done (put o.dst (.mptr κ g ((au Fn LW IN).nadd j ((au Fn LW IN).toNat m)) 0))))).holds σ K→bG P ρ σ K o a w Q:=by
    rintro k' hg hkk hl ⟨hs,hz⟩ ⟨h0,h1,hk⟩
    replace h0:¬m<0:=by simpa [au] using h0
    replace h1:m<n:=by simpa [au] using h1
    obtain⟨i',d',z',hi',hsz,_⟩:=hE _ (.inl hz)
    simp only[CR] at hx
    obtain⟨b,base,size,cap,hloc,_,_,_,e1⟩:=eB.at hx hg hl (m:=m.toNat) qom
    refine aR h hd (v:=.pointer (some ⟨b,base+j * (Λ κ).k+m.toNat * i'.size,none⟩)) ?_ ?_ hk
    ·have hrun:=uo (P:=P) (w:=w) (b:=b) (p:=base+j * (Λ κ).k) (n:=n) (cap:=cap) (k:=k) (m:=m) hd' hi' qom h1
     simp only[execOp,ho,hy,e1,Sem.run_bind,hrun,Result.andThen_ok,Sem.run_pure]
    ·simp only[CR,eG,hloc]
     refine⟨by omega,fun _=>?_,_,rfl⟩
     rw[hsz,←hs,←hkk]
     simp only[au,qzJ]
     congr 3;omega
   cases nd <;> simp only[Pg.holds] at hk <;> (try exact hk.elim)
   ·rename_i g' k' rows
    split at hk
    ·rename_i hc
     obtain⟨rfl,hc⟩:=hc
     obtain⟨h1,h2,h3,h4⟩:=hN
     exact key h1 h2 (by rcases h4 with⟨e,_⟩|⟨_,_,_,_,e,_⟩ <;> rw[e] <;> simp) hc hk
    ·exact hk.elim
   ·rename_i g' k' rows q row
    split at hk
    ·rename_i hc
     obtain⟨rfl,hc⟩:=hc
     obtain⟨h1,h2,h3,_,_,_,_,_,e,_⟩:=hN
     exact key h1 h2 (by rw[e];simp) hc hk
    ·exact hk.elim
   ·rename_i g' k' rows
    split at hk
    ·rename_i hc
     obtain⟨rfl,hc⟩:=hc
     obtain⟨h1,h2,h3,h4⟩:=hN
     exact key h1 h2 (by rcases h4 with⟨e,_⟩|⟨_,_,_,e,_⟩ <;> rw[e] <;> simp) hc hk
    ·exact hk.elim
  ·exact hk.elim
 ·exact hk.elim

theorem nQ (hE:EOk P E) {t b p:Nat} {x:Option Lam} {cs:List A} {v:A} {S:Set} (hc:ai w imm x cs b p S) (hlen:cs.length=(E.info t).size) (hm:fT (E.info t).td cs=some v) :
  ∃u,(Instr.loadAt t (.pointer (some ⟨b,p,none⟩))).run P w= .ok u w∧CR w imm x v u S:=by
 unfold fT at hm
 split at hm
 ·rename_i hs
  obtain⟨i,d,z,hi,hsz,_,hd',htd,_⟩:=hE t (.inr (by cases h:(E.info t).td <;> rw[h] at hs <;> simp[qX] at hs;rfl))
  obtain⟨vs,hl,hcell,hv⟩:=hc.vals
  refine⟨.agg vs.toArray,?_,?_⟩
  ·have hrun:=ga (P:=P) b p w vs 0 #[] (by simpa using hcell)
   simp only[Instr.loadAt,Instr.sureAddr,Sem.run_bind,Sem.run_pure,Result.andThen_ok,loadVar,sL hd' htd,hs,if_true,eO hi,loadCells]
   rw[hsz,←hlen,←hl,hrun]
   simp
  ·simp only[qzh] at hm
   subst hm
   simp only[CR]
   exact⟨vs,rfl,hv⟩
 ·rename_i hs
  split at hm
  ·rename_i c
   simp only[qzh] at hm
   subst hm
   obtain⟨i,d,z,hi,hsz,_,hd',htd,_⟩:=hE t (.inl (by rw[←hlen];simp))
   simp only[ai] at hc
   obtain⟨u,S1,S2,h1,h2,_,h3,_⟩:=hc
   refine⟨u,?_,h2.mono h3⟩
   simp only[Instr.loadAt,Instr.sureAddr,Sem.run_bind,Sem.run_pure,Result.andThen_ok,loadVar,sL hd' htd,hs,qzw,if_false,um h1]
  ·exact absurd hm (by simp)

/-- what may be compared to nil, and structs of numbers -/
theorem Dq (hE:EOk P E) (h:aD ρ σ a w imm Λ F) (hd:∀t,o.dst=some t→t<ρ.n) {op:BinOp} {t t':TypeId} {x y:Operand} (ho:o.op= .binOp op t x y t') {x' y':A}
  (hx:CR w imm (some Λ) x' (a.eval x) Set.no) (hy:CR w imm (some Λ) y' (a.eval y) Set.no) (hk:(BQ E (au Fn LW IN) o.dst op t x' y').holds σ K):bG P ρ σ K o a w Q:=by
 have out:∀{r:A} {v:Value},(eqGuard op t x y (a.eval x) (a.eval y)).run P w= .ok () w→(binOp op t (a.eval x) (a.eval y)).run P w= .ok v w→K (put o.dst r)→r= .lit v→bG P ρ σ K o a w Q:=by
  rintro r v hg hrun hk rfl
  exact aR h hd (v:=v) (by simp[execOp,ho,hg,hrun]) eV hk
 have eqs:∀{b:Bool},(eqGuard op t x y (a.eval x) (a.eval y)).run P w= .ok () w→(∀op',(op'= .eql∨op'= .neq)→(binOp op' t (a.eval x) (a.eval y)).run P w= .ok (.bool (if op'= .eql then b else !b)) w)→(qE o.dst op b).holds σ K→bG P ρ σ K o a w Q:=by
  intro b hg hrun hk
  unfold qE at hk
  split at hk
  ·exact out hg (hrun _ (.inl rfl)) hk (by simp)
  ·exact out hg (hrun _ (.inr rfl)) hk (by simp)
  ·exact hk.elim
 unfold BQ at hk
 split at hk
 ·rename_i ys
  split at hk
  ·rename_i xs
   split at hk
   ·rename_i hfl
    split at hk
    ·rename_i hlen
     have hf:wF P t:=hE.flat t hfl
     cases hq:lx (au Fn LW IN) xs ys with
     |none=>rw[hq] at hk;exact hk.elim
     |some b=>
      rw[hq] at hk
      replace hk:(qE o.dst op b).holds σ K:=hk
      obtain⟨k0,k1,k2,p0,p1,p2,q0,q1,q2,rfl,rfl,rfl⟩:=EA hq hlen.1 hlen.2
      simp only[CR] at hx hy
      obtain⟨us,hux,hus⟩:=hx
      obtain⟨vs,hvy,hvs⟩:=hy
      have e1:=wk hus
      have e2:=wk hvs
      subst e1 e2
      rw[hux,hvy] at eqs
      refine eqs (vi hf) (fun op' hop=>?_) hk
      rcases hop with rfl|rfl <;> simp[binOp,yf hf]
    ·exact hk.elim
   ·exact hk.elim
  ·exact hk.elim
 ·split at hk
  ·rename_i rows
   split at hk
   ·rename_i hsl
    simp only[CR] at hx
    obtain⟨ad,cap,hux,hle,hrows⟩:=hx
    have hvy:=bM hy
    rw[hux,hvy] at eqs
    have hu:∃e,P.underlying t=some (.slice e):=by
     obtain⟨i,d,z,_,_,_,hu,htd,_⟩:=hE.tok t (.inr (by revert hsl;cases(E.info t).td <;> simp[iz,iK]))
     revert hsl htd
     cases(E.info t).td <;> simp[iz]
     cases d <;> simp[ez]
     intro e;exact⟨_,e▸hu⟩
    obtain⟨e,hu⟩:=hu
    refine eqs (b:=ad.isNone) (fS (by simp) (by simp)) (fun op' hop=>?_) (hk _ ?_)
    ·obtain⟨n,hn⟩:∃n,Op.maxDepth=n+1:=⟨9999,rfl⟩
     rcases hop with rfl|rfl <;> cases ad <;> simp[binOp,Op.equal,hn,Op.equalIn,run_underlying hu]
    ·intro hn
     rcases hrows with h0|⟨b,o,k,e',_⟩
     ·rw[h0];rfl
     ·rw[e'] at hn;cases hn
   ·exact hk.elim
  ·exact hk.elim
 ·split at hk
  ·rename_i hp
   have hu:∃e,P.underlying t=some (.pointer e):=by
    obtain⟨i,d,z,_,_,_,hu,htd,_⟩:=hE.tok t (.inr (by revert hp;cases(E.info t).td <;> simp[D3,iK]))
    revert hp htd
    cases(E.info t).td <;> simp[D3]
    cases d <;> simp[ez]
    intro e;exact⟨_,e▸hu⟩
   obtain⟨e,hu⟩:=hu
   have hvy:=bM hy
   have hn:∃n,Op.maxDepth=n+1:=⟨9999,rfl⟩
   obtain⟨n,hn⟩:=hn
   have some':∀{ad:Addr},a.eval x= .pointer (some ad)→(qE o.dst op false).holds σ K→bG P ρ σ K o a w Q:=by
    intro ad hux hk
    rw[hux,hvy] at eqs
    refine eqs (fS (by simp) (by simp)) (fun op' hop=>?_) hk
    rcases hop with rfl|rfl <;> simp[binOp,Op.equal,hn,Op.equalIn,run_underlying hu]
   split at hk
   ·obtain⟨hg,hl,hk⟩:=h.live hk
    simp only[CR] at hx
    obtain⟨b,base,size,_,hux⟩:=hx.at hg hl
    exact some' hux hk
   ·simp only[CR] at hx
    obtain⟨b,o',hux,_⟩:=hx
    exact some' hux hk
   ·have hux:=bM hx
    rw[hux,hvy] at eqs
    refine eqs (fS (by simp) (by simp)) (fun op' hop=>?_) hk
    rcases hop with rfl|rfl <;> simp[binOp,Op.equal,hn,Op.equalIn,run_underlying hu]
   ·exact hk.elim
  ·exact hk.elim
 ·exact hk.elim
theorem Fw (hE:EOk P E) (h:aD ρ σ a w imm Λ F) (hd:∀t,o.dst=some t→t<ρ.n) {op:BinOp} {t t':TypeId} {x y:Operand} (ho:o.op= .binOp op t x y t')
  (hh:(opd x fun x=>opd y fun y=>Ef E (au Fn LW IN) o.dst op t x y).holds σ K):bG P ρ σ K o a w Q:=by
 obtain⟨x',y',hx,hy,hk⟩:=h.opd2 hh
 clear hh
 unfold Ef at hk
 split at hk
 ·replace hx:=bM hx
  replace hy:=bM hy
  rename_i k p k' q
  have key:∀{r:A} {v:Value},(binOp op t (.int k p) (.int k' q)).run P w= .ok v w→K (put o.dst r)→r= .lit v→bG P ρ σ K o a w Q:=by
   rintro r v hrun hk rfl
   refine aR h hd (v:=v) ?_ eV hk
   simp[execOp,ho,hx,hy,fS (P:=P) (w:=w) (u:=Value.int k p) (by simp) (by simp),hrun]
  split at hk
  ·have hb:¬q<0:=by simpa [au] using hk.1
   exact key (by simp[binOp,Op.shift,hb,au,dG]) hk.2 rfl
  ·have hb:¬q<0:=by simpa [au] using hk.1
   exact key (by simp[binOp,Op.shift,hb,au,dG]) hk.2 rfl
  ·split at hk
   ·rename_i hkk
    subst hkk
    split at hk
    ·exact key (by simp[binOp,Op.intArith];rfl) hk rfl
    ·exact key (by simp[binOp,Op.intArith];rfl) hk rfl
    ·exact key (by simp[binOp,Op.intArith];rfl) hk rfl
    ·exact key (by simp[binOp,Op.intDiv,hk.1,au,dG]) hk.2 rfl
    ·exact key (by simp[binOp,Op.intDiv,hk.1,au,dG]) hk.2 rfl
    ·exact key (by simp[binOp,Op.intBits];rfl) hk rfl
    ·exact key (by simp[binOp,Op.intBits];rfl) hk rfl
    ·exact key (by simp[binOp,Op.intBits];rfl) hk rfl
    ·exact key (by simp[binOp,Op.intCmp];rfl) hk (by simp[au])
    ·exact key (by simp[binOp,Op.intCmp];rfl) hk (by simp[au,bne])
    ·exact key (by simp[binOp,Op.intCmp];rfl) hk (by simp[au])
    ·refine key (by simp[binOp,Op.intCmp];rfl) hk ?_
     simp only[au,A.lit.injEq,Value.bool.injEq]
     by_cases h:q<p <;> simp[h] <;> omega
    ·exact key (by simp[binOp,Op.intCmp];rfl) hk (by simp[au])
    ·refine key (by simp[binOp,Op.intCmp];rfl) hk ?_
     simp only[au,A.lit.injEq,Value.bool.injEq]
     by_cases h:p<q <;> simp[h] <;> omega
    ·exact hk.elim
   ·exact hk.elim
 ·replace hx:=bM hx
  replace hy:=bM hy
  rename_i p q
  have key:∀{r:A} {v:Value},(binOp op t (.bool p) (.bool q)).run P w= .ok v w→K (put o.dst r)→r= .lit v→bG P ρ σ K o a w Q:=by
   rintro r v hrun hk rfl
   refine aR h hd (v:=v) ?_ eV hk
   simp[execOp,ho,hx,hy,fS (P:=P) (w:=w) (u:=Value.bool p) (by simp) (by simp),hrun]
  have hu:(E.info t).td= .bool→(Op.equal t (.bool p) (.bool q)).run P w= .ok (p==q) w:=by
   intro ht
   obtain⟨i,d,z,_,_,_,hu,htd,_⟩:=hE t (.inr (by rw[ht];rfl))
   rw[ht] at htd
   cases d <;> simp only[ez] at htd
   exact xN hu
  split at hk
  ·rename_i ht
   exact key (by simp[binOp,hu ht]) hk rfl
  ·rename_i ht
   exact key (by simp[binOp,hu ht]) hk rfl
  ·exact hk.elim
 ·replace hx:=bM hx
  replace hy:=bM hy
  rename_i p q
  have key:∀{r:A} {v:Value},(binOp op t (.string p) (.string q)).run P w= .ok v w→K (put o.dst r)→r= .lit v→bG P ρ σ K o a w Q:=by
   rintro r v hrun hk rfl
   refine aR h hd (v:=v) ?_ eV hk
   simp[execOp,ho,hx,hy,fS (P:=P) (w:=w) (u:=Value.string p) (by simp) (by simp),hrun]
  split at hk
  ·exact key (by simp[binOp,Op.stringOp];rfl) hk rfl
  ·exact key (by simp[binOp,Op.stringOp];rfl) hk rfl
  ·exact key (by simp[binOp,Op.stringOp];rfl) hk rfl
  ·exact key (v:=.string (p++q)) (GO hk.1) hk.2 rfl
  ·exact hk.elim
 ·exact Dq hE h hd ho hx hy hk
end
end Go.Vm
/- Steps that turn what is known and not memory: nodes that are opened. Loads. -/
namespace Go.Vm

def up {α:Type} (f:Key→α) (κ:Key) (v:α):Key→α:=fun x=>if x=κ then v else f x
theorem az {α:Type} (f:Key→α) (κ:Key) (v:α):up f κ v κ=v:=by simp[up]
theorem aN {α:Type} (f:Key→α) {κ x:Key} (v:α) (h:x≠κ):up f κ v x=f x:=by simp[up,h]

theorem NR.le {w:World} {imm:Set} {Λ Λ':Lam} {i:KI} {n:HN} {S:Set} (hl:bF Λ Λ') (h:NR w imm Λ i n S):NR w imm Λ' i n S:=by
 have hc:∀{cs b o S},ai w imm (some Λ) cs b o S→ai w imm (some Λ') cs b o S:=fun h=>
  ai.stable (Set.le_refl _) (fun _ _=>rfl) (some Λ) (some Λ') _ _ _ _ _ hl (Set.le_refl _) rfl (fun _ _=>rfl) h
 cases n <;> simp only[NR] at h⊢
 ·exact h
 ·obtain⟨h1,h2,h3,b,base,size,S',h4,h5,h6,h7,h8,h9,h10⟩:=h
  exact⟨h1,h2,h3,b,base,size,S',h4,h5,h6,h7,h8,h9,hc h10⟩
 ·exact h
 ·obtain⟨h1,h2,h3,b,base,size,S1,S2,h4,h5,h6,h7,h8,h9,h10,h11,h12,h13,h14,h15,h16⟩:=h
  exact⟨h1,h2,h3,b,base,size,S1,S2,h4,h5,h6,h7,h8,h9,h10,h11,h12,h13,h14,hc h15,h16⟩
 ·exact h
 ·exact h

section
variable {P:Program} {E:TE} {Fn:FuncId→List A→List A→A→Prop} {LW:Code→(Ex→St→Prop)→St→Prop} {IN:InT} {ρ:Env} {σ:St} {K:List W→Prop} {o:Oper} {a:Act} {w:World} {Q:Exit→Act→World→Prop} {imm:Set} {Λ:Lam} {F:Key→Set}

/-- only what is looked up counts -/
theorem aD.congr (h:aD ρ σ a w imm Λ F) {σ':St} (hs:∀t,lkS σ'.slots t=lkS σ.slots t) (hn:∀κ:Key,lkN σ'.heap κ.1 κ.2=lkN σ.heap κ.1 κ.2):aD ρ σ' a w imm Λ F:=
 { h with slots:=fun t=>by rw[hs];exact h.slots t,nodes:=fun κ=>by rw[hn];exact h.nodes κ,rs:=fun κ=>by rw[hn];exact h.rs κ }

/-- the view of the nodes changes, memory does not -/
theorem aD.ghost (h:aD ρ σ a w imm Λ F) {σ':St} {Λ':Lam} {F':Key→Set} (hs:∀t,lkS σ'.slots t=lkS σ.slots t) (hl:bF Λ Λ')
  (hn:∀κ:Key,NR w imm Λ' (Λ' κ) (lkN σ'.heap κ.1 κ.2) (F' κ)) (hd:∀κ κ',κ≠κ'→Set.dis (F' κ) (F' κ')) (hf:∀κ b,F' κ b→∃κ',F κ' b) (hr:∀κ:Key,RS ρ w (Λ' κ) (lkN σ'.heap κ.1 κ.2)):aD ρ σ' a w imm Λ' F':=
 {h with
  rs:=hr
  slots:=fun t=>by rw[hs];exact CR.stable (Set.le_refl _) (fun _ _=>rfl) (some Λ) (some Λ') _ _ _ _ hl (Set.le_refl _) (fun _ _=>rfl) (h.slots t)
  nodes:=hn
  dis:=hd
  fimm:=fun κ b hb=>by obtain⟨κ',h'⟩:=hf κ b hb;exact h.fimm κ' b h'
  flt:=fun κ b hb=>by obtain⟨κ',h'⟩:=hf κ b hb;exact h.flt κ' b h' }

/-- one cell among others -/
theorem ai.pick {x:Option Lam} {b:Nat}:∀(pre:List A) (c:A) (post:List A) (p:Nat) (S:Set),ai w imm x (pre++c::post) b p S→
  ∃v Sj,CR w imm x c v Sj∧Set.le Sj S∧∀x' c',bF? x x'→CR w imm x' c' v Set.no→ai w imm x' (pre++c'::post) b p (fun y=>S y∧¬Sj y)
 |[],c,post,p,S,h=>by
  simp only[qzO,ai] at h
  obtain⟨v,S1,S2,h1,h2,h3,h4,h5,h6⟩:=h
  refine⟨v,S1,h2,h4,fun x' c' hx hc'=>?_⟩
  simp only[qzO,ai]
  refine⟨v,Set.no,S2,h1,hc',ai.stable (Set.le_refl _) (fun _ _=>rfl) x x' _ _ _ _ _ hx (Set.le_refl _) rfl (fun _ _=>rfl) h3,Set.no_le _,fun y hy=>⟨h5 y hy,fun h=>h6 y h hy⟩,Set.no_dis _⟩
 |q::pre,c,post,p,S,h=>by
  simp only[qzH,ai] at h
  obtain⟨v,S1,S2,h1,h2,h3,h4,h5,h6⟩:=h
  obtain⟨u,Sj,g1,g2,g3⟩:=ai.pick pre c post (p+1) S2 h3
  refine⟨u,Sj,g1,Set.le_trans g2 h5,fun x' c' hx hc'=>?_⟩
  simp only[qzH,ai]
  exact⟨v,S1,_,h1,CR.stable (Set.le_refl _) (fun _ _=>rfl) x x' _ _ _ _ hx (Set.le_refl _) (fun _ _=>rfl) h2,g3 x' c' hx hc',fun y hy=>⟨h4 y hy,fun h=>h6 y hy (g2 y h)⟩,fun y hy=>⟨h5 y hy.1,hy.2⟩,fun y hy hz=>h6 y hy hz.1⟩

/-- a node whose cells may hold references -/
inductive od:(List A→HN)→Prop
 |box (g:Nat):od (.box g)
 |opn (g k:Nat) (rows:Rows) (j:Nat):od (.opn g k rows j)
theorem NR.cells {N:List A→HN} (hB:od N) {i:KI} {cells:List A} {S:Set} (h:NR w imm Λ i (N cells) S) :
  ∃b p S1,Set.le S1 S∧ai w imm (some Λ) cells b p S1∧∀(Λ':Lam) (cells':List A) (S1' T:Set),bF Λ Λ'→cells'.length=cells.length→Set.le S1' S1→Set.le T S1→Set.dis S1' T→
   ai w imm (some Λ') cells' b p S1'→NR w imm Λ' i (N cells') (fun y=>S y∧¬T y):=by
 cases hB with
 |box g=>
  simp only[NR] at h⊢
  obtain⟨h1,h2,h3,b,base,size,S',h4,h5,h6,h7,h8,h9,h10⟩:=h
  refine⟨b,base,S',h7,h10,fun Λ' cells' S1' T hl hlen hS hT hd hc=>?_⟩
  exact⟨h1,by rw[hlen];exact h2,h3,b,base,size,S1',h4,⟨h5,fun h=>h6 (hT _ h)⟩,fun h=>h6 (hS _ h),fun y hy=>⟨h7 y (hS y hy),hd y hy⟩,h8,by rw[hlen];exact h9,hc⟩
 |opn g k rows j=>
  simp only[NR] at h⊢
  obtain⟨h1,h2,h3,b,base,size,S1,S2,h4,h5,h6,h7,h8,h9,h10,h11,h12,h13,h14,h15,h16⟩:=h
  refine⟨b,base+j * k,S1,h8,h15,fun Λ' cells' S1' T hl hlen hS hT hd hc=>?_⟩
  exact⟨h1,h2,h3,b,base,size,S1',S2,h4,⟨h5,fun h=>h6 (hT _ h)⟩,fun h=>h6 (hS _ h),h7,fun y hy=>⟨h8 y (hS y hy),hd y hy⟩,fun y hy=>⟨h9 y hy,fun h=>h10 y (hT y h) hy⟩,
   fun y hy=>h10 y (hS y hy),h11,h12,h13,by rw[hlen];exact h14,hc,h16⟩

/-- an owned slice in a node's cells becomes a node of its own -/
theorem aD.open1 (h:aD ρ σ a w imm Λ F) {N:List A→HN} (hB:od N) {κ κ2:Key} (hne:κ≠κ2) {pre post:List A} {k:Nat} {rows:Rows}
  (hn:lkN σ.heap κ.1 κ.2=N (pre++ .inl k rows::post)) {g:Nat} (hg:g=(lkN σ.heap κ2.1 κ2.2).gen+1) :
  ∃Λ' F',aD ρ ((σ.upd1 (.n κ2 (.arr g k rows))).upd1 (.n κ (N (pre++ .ref κ2 g 0 rows.length::post)))) a w imm Λ' F'∧bF Λ Λ'∧Λ' κ=Λ κ:=by
 have hκ:=h.nodes κ
 rw[hn] at hκ
 obtain⟨b,p,S1,hS1,hc,hre⟩:=hκ.cells hB
 have hgen:(Λ κ2).gen+1=g:=by
  have:=h.nodes κ2
  rw[hg]
  generalize lkN σ.heap κ2.1 κ2.2=n at this
  cases n <;> simp only[NR] at this <;> simp only[HN.gen,this.1]
 -- where the slice lies
 obtain⟨v,Sj,hv,hSj,hput⟩:=ai.pick (x:=some Λ) pre _ post p S1 hc
 simp only[CR] at hv
 obtain⟨ad,cap,ev,hloc⟩:=hv
 have hex:∃loc:Loc,loc≠ .gone∧NR w imm Λ ⟨g,loc,k,rows.length⟩ (.arr g k rows) Sj∧eB ⟨g,loc,k,rows.length⟩ g 0 rows.length v:=by
  rcases hloc with⟨rfl,rfl,rfl⟩|⟨b',o',size,S',rfl,g1,g2,g3,g4,g5,g6,g7,g8⟩
  ·exact⟨.nil,by simp,⟨rfl,rfl,rfl,.inl ⟨rfl,rfl⟩⟩,qzi _,fun _=>⟨rfl,rfl,ev⟩,_,_,_,ev⟩
  ·refine⟨.at_ b' o' size,by simp,?_,qzi _,fun _=>⟨o',cap,ev,g7,by simp,g6,.inr ⟨by simp,by simpa using g5⟩⟩,_,_,_,ev⟩
   refine⟨rfl,rfl,rfl,.inr ⟨b',o',size,S',rfl,g1,g2,g3,g4,?_,g8⟩⟩
   have:=qzp k g7
   omega
 obtain⟨loc,hl0,hN2,hR⟩:=hex
 refine⟨up Λ κ2 ⟨g,loc,k,rows.length⟩,up (up F κ (fun y=>F κ y∧¬Sj y)) κ2 Sj,?_,?_⟩
 all_goals
  have hle:bF Λ (up Λ κ2 ⟨g,loc,k,rows.length⟩):=by
   intro x
   by_cases e:x=κ2
   ·subst e;rw[az];exact⟨by simp only;omega,fun e=>by simp only at e;omega⟩
   ·rw[aN _ _ e];exact⟨qzi _,fun _=>.inr rfl⟩
 ·refine h.ghost (fun _=>rfl) hle ?_ ?_ ?_ ?_
  ·intro x
   show NR _ _ _ _ (lkN ((κ,N (pre++ .ref κ2 g 0 rows.length::post))::(κ2,HN.arr g k rows)::σ.heap) x.1 x.2) _
   rw[aP,aP]
   by_cases e2:x=κ2
   ·subst e2
    rw[if_neg (fun e=>hne e.symm),if_pos rfl,az,az]
    exact hN2.le hle
   ·rw[aN _ _ e2,aN _ _ e2]
    by_cases e1:x=κ
    ·subst e1
     rw[if_pos rfl,az]
     refine hre _ _ (fun y=>S1 y∧¬Sj y) Sj hle (by simp) (fun y hy=>hy.1) hSj (fun y hy=>hy.2) (hput (some _) _ hle ?_)
     simp only[CR,az]
     exact hR
    ·rw[if_neg e1,if_neg e2,aN _ _ e1]
     exact(h.nodes x).le hle
  ·intro x y hxy z hz hw
   have base:∀u,up (up F κ (fun y=>F κ y∧¬Sj y)) κ2 Sj u z→(u=κ2∧Sj z)∨(u≠κ2∧F u z∧(u=κ→¬Sj z)):=by
    intro u hu
    by_cases e2:u=κ2
    ·subst e2;rw[az] at hu;exact .inl ⟨rfl,hu⟩
    ·rw[aN _ _ e2] at hu
     by_cases e1:u=κ
     ·subst e1;rw[az] at hu;exact .inr ⟨e2,hu.1,fun _=>hu.2⟩
     ·rw[aN _ _ e1] at hu;exact .inr ⟨e2,hu,fun e=>absurd e e1⟩
   have hSF:Sj z→F κ z:=fun hj=>hS1 z (hSj z hj)
   rcases base x hz with⟨rfl,h1⟩|⟨h1,h2,h3⟩ <;> rcases base y hw with⟨rfl,g1⟩|⟨g1,g2,g3⟩
   ·exact hxy rfl
   ·by_cases e:y=κ
    ·exact g3 e h1
    ·exact h.dis y κ e z g2 (hSF h1)
   ·by_cases e:x=κ
    ·exact h3 e g1
    ·exact h.dis x κ e z h2 (hSF g1)
   ·exact h.dis x y hxy z h2 g2
  ·intro x z hz
   by_cases e2:x=κ2
   ·subst e2;rw[az] at hz;exact⟨κ,hS1 z (hSj z hz)⟩
   ·rw[aN _ _ e2] at hz
    by_cases e1:x=κ
    ·subst e1;rw[az] at hz;exact⟨x,hz.1⟩
    ·rw[aN _ _ e1] at hz;exact⟨x,hz⟩
  ·intro x
   show RS _ _ _ (lkN ((κ,N (pre++ .ref κ2 g 0 rows.length::post))::(κ2,HN.arr g k rows)::σ.heap) x.1 x.2)
   rw[aP,aP]
   by_cases e2:x=κ2
   ·subst e2
    rw[if_neg (fun e=>hne e.symm),if_pos rfl]
    trivial
   ·rw[aN _ _ e2]
    by_cases e1:x=κ
    ·subst e1
     rw[if_pos rfl]
     have h0:=h.rs x
     rw[hn] at h0
     cases hB with
     |box g0=>
      intro b0 base0 size0 e0
      have h1:=h0 b0 base0 size0 e0
      simp only[qzg,qzm] at h1⊢
      exact h1
     |opn=>trivial
    ·rw[if_neg e1,if_neg e2]
     exact h.rs x
 ·exact⟨hle,aN _ _ hne⟩

theorem sX:∀(o n:Nat) (cells cs:List A),cut o (n+1) cells=some cs→∃pre post,cells=pre++(cs++post)∧pre.length=o
 |0,0,c::cells,cs,h=>by
  simp[cut] at h;subst h
  exact⟨[],cells,rfl,rfl⟩
 |0,n+1,c::cells,cs,h=>by
  simp only[cut,qzY] at h
  obtain⟨e,he,rfl⟩:=h
  obtain⟨pre,post,h1,h2⟩:=sX 0 n cells e he
  cases pre with
  |nil=>exact⟨[],post,by simpa using h1,rfl⟩
  |cons _ _=>simp at h2
 |o+1,n,c::cells,cs,h=>by
  obtain⟨pre,post,h1,h2⟩:=sX o n cells cs (by simpa only[cut] using h)
  exact⟨c::pre,post,by simp[h1],by simp[h2]⟩
 |0,_,[],cs,h=>by simp[cut] at h
 |_+1,_,[],cs,h=>by simp[cut] at h
theorem B5:∀(cs cs' post:List A),cs'.length=cs.length→lay 0 cs' (cs++post)=some (cs'++post)
 |[],[],post,_=>by cases post <;> rfl
 |c::cs,c'::cs',post,h=>by simp only[qzH,lay,B5 cs cs' post (by simpa using h),qzL]
 |[],_::_,_,h=>by simp at h
 |_::_,[],_,h=>by simp at h
theorem sf:∀(pre cs cs' post:List A),cs'.length=cs.length→lay pre.length cs' (pre++(cs++post))=some (pre++(cs'++post))
 |[],cs,cs',post,h=>by simpa using B5 cs cs' post h
 |p::pre,cs,[],post,h=>by
  have:cs=[]:=by cases cs <;> simp at h⊢
  subst this;simp[lay]
 |p::pre,cs,c'::cs',post,h=>by
  simp only[qzm,qzH,lay,sf pre cs (c'::cs') post h,qzL]
theorem xC:∀(pre cs post:List A),cut pre.length cs.length (pre++(cs++post))=some cs
 |[],[],post=>by cases post <;> rfl
 |[],c::cs,post=>by
  have:=xC [] cs post
  simp only[u9,qzO] at this
  simp only[u9,qzm,qzO,qzH,cut,this,qzL]
 |p::pre,[],post=>by simp[cut]
 |p::pre,c::cs,post=>by
  simp only[qzm,qzH,cut]
  exact xC pre (c::cs) post

/-- the writes of an gS: nodes of slot d alone -/
def wI (d:Nat):List W→Prop
 |[]=>True
 | .n κ _::ws=>κ.1=d∧wI d ws
 | .s _ _::_=>False
theorem l8 {d:Nat}:∀{ws:List W} {σ:St},wI d ws→∀κ:Key,κ.1≠d→lkN (σ.upd ws).heap κ.1 κ.2=lkN σ.heap κ.1 κ.2
 |[],_,_,_,_=>rfl
 | .n x h::ws,σ,ho,κ,hk=>by
  rw[St.upd,l8 ho.2 κ hk]
  show lkN ((x,h)::σ.heap) κ.1 κ.2=_
  rw[aP,if_neg (fun e=>hk (by rw[e];exact ho.1))]
theorem mr {d:Nat}:∀{ws:List W} {σ:St},wI d ws→∀t,lkS (σ.upd ws).slots t=lkS σ.slots t
 |[],_,_,_=>rfl
 | .n x h::ws,σ,ho,t=>by rw[St.upd,mr ho.2 t];rfl

theorem mN {p:Key→Prop}:∀(ws:List W) {σ τ:St},(∀κ:Key,p κ→lkN σ.heap κ.1 κ.2=lkN τ.heap κ.1 κ.2)→∀κ:Key,p κ→lkN (σ.upd ws).heap κ.1 κ.2=lkN (τ.upd ws).heap κ.1 κ.2
 |[],_,_,h=>h
 | .s t a::ws,σ,τ,h=>mN ws (σ:=σ.upd1 (.s t a)) (τ:=τ.upd1 (.s t a)) h
 | .n κ n::ws,σ,τ,h=>mN ws (σ:=σ.upd1 (.n κ n)) (τ:=τ.upd1 (.n κ n)) fun x hx=>by
   show lkN ((κ,n)::σ.heap) x.1 x.2=lkN ((κ,n)::τ.heap) x.1 x.2
   rw[aP,aP,h x hx]

theorem kW {N:List A→HN} (hB:od N) {κ:Key} {d:Nat} (hne:κ.1≠d) {post:List A} {f:List W→List A→Pg} :
  ∀(cs pre:List A) (j:Nat) (σ':St) (Λ:Lam) (F:Key→Set) (g:List W→List A→Pg),aD ρ σ' a w imm Λ F→lkN σ'.heap κ.1 κ.2=N (pre++(cs++post))→
   (∀j',j≤j'→lkN σ'.heap d j'=lkN σ.heap d j')→(gS (au Fn LW IN) d j cs g).holds σ K→
   ∃ws cs' Λ' F' τ,(g ws cs').holds σ K∧wI d ws∧aD ρ τ a w imm Λ' F'∧(bF Λ Λ'∧Λ' κ=Λ κ)∧cs'.length=cs.length∧cs'.all plain=true∧lkN τ.heap κ.1 κ.2=N (pre++(cs'++post))∧
    (∀t,lkS τ.slots t=lkS σ'.slots t)∧(∀x:Key,x≠κ→lkN τ.heap x.1 x.2=lkN (σ'.upd ws).heap x.1 x.2)
 |[],pre,j,σ',Λ,F,g,h,hn,hd,hh=>⟨[],[],Λ,F,σ',hh,trivial,h,⟨bF.refl Λ,rfl⟩,rfl,rfl,hn,fun _=>rfl,fun _ _=>rfl⟩
 |c::cs,pre,j,σ',Λ,F,g,h,hn,hd,hh=>by
  by_cases hc:∃k rows,c= .inl k rows
  ·obtain⟨k,rows,rfl⟩:=hc
   simp only[gS,Pg.holds] at hh
   have hne':κ≠(d,j):=fun e=>hne (by rw[e])
   obtain⟨Λ1,F1,h1,hl1,hl2⟩:=h.open1 hB hne' (pre:=pre) (post:=cs++post) (k:=k) (rows:=rows) hn (g:=(lkN σ.heap d j).gen+1) (by rw[←hd j (qzi _)])
   obtain⟨ws,cs',Λ',F',τ,r1,r2,r3,r4,r5,r6,r7,r8,r9⟩:=kW (post:=post) (f:=f) hB hne cs (pre++[.ref (d,j) ((lkN σ.heap d j).gen+1) 0 rows.length]) (j+1) _ Λ1 F1 _ h1
    (by show lkN ((κ,_)::_) κ.1 κ.2=_
        rw[aP,if_pos rfl];simp) (fun j' hj'=>by
     show lkN ((κ,_)::((d,j),_)::σ'.heap) (d,j').1 (d,j').2=_
     rw[aP,aP,if_neg (fun e=>hne (by rw[←e])),if_neg (fun e=>by simp only[oM,true_and] at e;omega)]
     exact hd j' qom) hh
   refine⟨_,_,Λ',F',τ,r1,⟨rfl,r2⟩,r3,⟨fun x=>⟨qzz (hl1 x).1 (r4.1 x).1,fun e=>?_⟩,r4.2.trans hl2⟩,by simp[r5],by simp only[qzK,Vm.plain,r6,Bool.and_self],by rw[r7];simp[au],r8,fun x hx=>?_⟩
   ·have e1:(Λ1 x).gen=(Λ x).gen:=by have:=(hl1 x).1;have:=(r4.1 x).1;omega
    rcases (r4.1 x).2 qom with h2|h2
    ·exact .inl h2
    ·rw[h2];exact(hl1 x).2 e1
   ·rw[r9 x hx]
    refine mN (p:=fun y=>y≠κ) ws (τ:=σ'.upd1 (.n (d,j) (.arr ((lkN σ.heap d j).gen+1) k rows))) (fun y hy=>?_) x hx
    show lkN ((κ,_)::_) y.1 y.2=_
    rw[aP,if_neg hy]
  ·have hp:plain c=true∧(gS (au Fn LW IN) d j cs fun ws cs'=>g ws (c::cs')).holds σ K:=by
    cases c <;> first|exact absurd ⟨_,_,rfl⟩ hc|(simp only[gS,Vm.plain,if_true,qzw,if_false] at hh⊢;first|exact⟨trivial,hh⟩|exact hh.elim)
   obtain⟨ws,cs',Λ',F',τ,r1,r2,r3,r4,r5,r6,r7,r8,r9⟩:=kW (post:=post) (f:=f) hB hne cs (pre++[c]) j σ' Λ F _ h (by rw[hn];simp) hd hp.2
   exact⟨ws,c::cs',Λ',F',τ,r1,r2,r3,r4,by simp[r5],by simp only[qzK,hp.1,r6,Bool.and_self],by rw[r7];simp,r8,r9⟩

theorem aq.split {b k:Nat}:∀(rs:Rows) (o j:Nat) (S:Set) (r:List A),aq w imm none rs b o k S→rs[j]? =some r→
  ∃S1 S2,Set.le S1 S∧Set.le S2 S∧Set.dis S1 S2∧r.length=k∧j<rs.length∧ai w imm none r b (o+j * k) S1∧iq w imm rs j b o k S2
 |[],_,_,_,_,_,h=>by simp at h
 |q::rs,o,0,S,r,hr,h=>by
  simp only[aq] at hr
  obtain⟨S1,S2,h1,h2,h3,h4,h5,h6⟩:=hr
  simp at h;subst h
  exact⟨S1,S2,h4,h5,h6,h1,by simp,by simpa using h2,Set.no,S2,by simp[aq],by simpa using h3,Set.no_le _,Set.le_refl _,Set.no_dis _⟩
 |q::rs,o,j+1,S,r,hr,h=>by
  simp only[aq] at hr
  obtain⟨S1,S2,h1,h2,h3,h4,h5,h6⟩:=hr
  obtain⟨T1,T2,g1,g2,g3,g4,g5,g6,U1,U2,g7,g8,g9,g10,g11⟩:=aq.split rs (o+k) j S2 r h3 (by simpa using h)
  refine⟨T1,fun y=>S1 y∨T2 y,Set.le_trans g1 h5,fun y hy=>hy.elim (h4 y) (fun z=>h5 y (g2 y z)),fun y hy hz=>hz.elim (fun z=>h6 y z (g1 y hy)) (g3 y hy),g4,by simp;exact g5,?_,fun y=>S1 y∨U1 y,U2,?_,?_,?_,?_,?_⟩
  ·rw[show o+(j+1) * k=o+k+j * k by rw[qzJ];omega];exact g6
  ·simp only[List.take_succ_cons,aq]
   exact⟨S1,U1,h1,h2,g7,fun y hy=>.inl hy,fun y hy=>.inr hy,fun y hy hz=>h6 y hy (g2 y (g9 y hz))⟩
  ·rw[show o+(j+1+1) * k=o+k+(j+1) * k by rw[qzJ (j+1)];omega]
   simpa using g8
  ·exact fun y hy=>hy.elim .inl (fun z=>.inr (g9 y z))
  ·exact fun y hy=>.inr (g10 y hy)
  ·exact fun y hy hz=>hy.elim (fun z=>h6 y z (g2 y (g10 y hz))) (fun z=>g11 y z hz)
/-- a row that is put mi among the others -/
theorem aq.join {b k:Nat} {row':List A}:∀(rs:Rows) (o j:Nat) (S S1 S2:Set),j<rs.length→row'.length=k→ai w imm none row' b (o+j * k) S1→iq w imm rs j b o k S2→Set.le S1 S→Set.le S2 S→Set.dis S1 S2→
  aq w imm none (rs.set j row') b o k S
 |[],_,_,_,_,_,h,_,_,_,_,_,_=>by simp at h
 |q::rs,o,0,S,S1,S2,_,hl,hc,⟨T1,T2,h1,h2,h3,h4,h5⟩,hS1,hS2,hd=>by
  simp only[List.set_cons_zero,aq]
  exact⟨S1,T2,hl,by simpa using hc,by simpa using h2,hS1,Set.le_trans h4 hS2,Set.dis_le hd (Set.le_refl _) h4⟩
 |q::rs,o,j+1,S,S1,S2,hj,hl,hc,⟨T1,T2,h1,h2,h3,h4,h5⟩,hS1,hS2,hd=>by
  simp only[List.take_succ_cons,aq] at h1
  obtain⟨U1,U2,g1,g2,g3,g4,g5,g6⟩:=h1
  simp only[List.set_cons_succ,aq]
  refine⟨U1,fun y=>S1 y∨U2 y∨T2 y,g1,g2,aq.join rs (o+k) j _ S1 (fun y=>U2 y∨T2 y) (by simpa using hj) hl ?_ ⟨U2,T2,g3,?_,fun y hy=>.inl hy,fun y hy=>.inr hy,?_⟩ (fun y hy=>.inl hy) (fun y hy=>.inr hy) ?_,?_,?_,?_⟩
  ·rw[show o+k+j * k=o+(j+1) * k by rw[qzJ];omega];exact hc
  ·rw[show o+k+(j+1) * k=o+(j+1+1) * k by rw[qzJ (j+1)];omega]
   simpa using h2
  ·exact fun y hy hz=>h5 y (g5 y hy) hz
  ·exact fun y hy hz=>hd y hy (hz.elim (fun z=>h3 y (g5 y z)) (h4 y))
  ·exact fun y hy=>hS2 y (h3 y (g4 y hy))
  ·exact fun y hy=>hy.elim (hS1 y) (fun z=>hS2 y (z.elim (fun u=>h3 y (g5 y u)) (h4 y)))
  ·exact fun y hy hz=>hz.elim (fun z=>hd y z (h3 y (g4 y hy))) (fun z=>z.elim (g6 y hy) (h5 y (g4 y hy)))
theorem NR.open_row {i:KI} {g k j:Nat} {rows:Rows} {row:List A} {S:Set} (h:NR w imm Λ i (.arr g k rows) S) (hr:rows[j]? =some row):NR w imm Λ i (.opn g k rows j row) S:=by
 obtain⟨h1,h2,h3,h4⟩:=h
 rcases h4 with⟨_,rfl⟩|⟨b,base,size,S',h4,h5,h6,h7,h8,h9,h10⟩
 ·simp at hr
 obtain⟨S1,S2,g1,g2,g3,g4,g5,g6,g7⟩:=aq.split rows base j S' row h10 hr
 exact⟨h1,h2,h3,b,base,size,S1,S2,h4,h5,fun z=>h6 (g1 _ z),fun z=>h6 (g2 _ z),Set.le_trans g1 h7,Set.le_trans g2 h7,g3,h8,h9,g5,g4,ai.any _ _ _ _ _ _ _ g6,g7⟩

theorem bo:∀(ws ws':List W) (σ:St),σ.upd (ws++ws')=(σ.upd ws).upd ws'
 |[],_,_=>rfl
 |w::ws,ws',σ=>bo ws ws' (σ.upd1 w)
def vX:HN→Nat
 | .opn _ _ _ j _=>j
 |_=>0
theorem NR.bearer_at {N:List A→HN} (hB:od N) {i:KI} {cells:List A} {S:Set} (h:NR w imm Λ i (N cells) S) {b base size:Nat} (hl:i.loc= .at_ b base size) :
  ∃S',ai w imm (some Λ) cells b (base+vX (N cells) * i.k) S':=by
 cases hB with
 |box g=>
  obtain⟨h1,h2,h3,b',base',size',S',h4,h5,h6,h7,h8,h9,h10⟩:=h
  rw[hl] at h4
  simp only[Loc.at_.injEq] at h4
  obtain⟨rfl,rfl,rfl⟩:=h4
  exact⟨S',by simpa [vX] using h10⟩
 |opn g k rows j=>
  obtain⟨h1,h2,h3,b',base',size',S1,S2,h4,h5,h6,h7,h8,h9,h10,h11,h12,h13,h14,h15,h16⟩:=h
  rw[hl] at h4
  simp only[Loc.at_.injEq] at h4
  obtain⟨rfl,rfl,rfl⟩:=h4
  exact⟨S1,by rw[h2];exact h15⟩

theorem pB {td:TD} {cs:List A} {v:A} {x:Option Lam} {u:Value} {S:Set} (hm:fT td cs=some v) (hp:cs.all plain=true) (h:CR w imm x v u S):CR w imm x v u Set.no:=by
 unfold fT at hm
 split at hm
 ·simp only[qzh] at hm
  subst hm
  simp only[CR] at h⊢
  obtain⟨vs,e,hv⟩:=h
  exact⟨vs,e,af.plain hp hv⟩
 ·split at hm
  ·simp only[qzh] at hm
   subst hm
   simp only[qzK,List.all_nil,Bool.and_true] at hp
   exact h.plain hp
  ·exact absurd hm (by simp)
/-- a load from a node's cells that may open owned slices -/
theorem pE (hE:EOk P E) (h:aD ρ σ a w imm Λ F) {N:List A→HN} (hB:od N) (hpos:∀cs cs',vX (N cs)=vX (N cs')) {κ:Key} {cells:List A} {σ':St} (hn:lkN σ'.heap κ.1 κ.2=N cells)
  (hs':∀t,lkS σ'.slots t=lkS σ.slots t) (hn':∀x:Key,x≠κ→lkN σ'.heap x.1 x.2=lkN σ.heap x.1 x.2) (h':aD ρ σ' a w imm Λ F) (hd:∀t,o.dst=some t→t<ρ.n) {t off b base size:Nat} {cs:List A}
  (hcut:cut off (E.info t).size cells=some cs) (hloc:(Λ κ).loc= .at_ b base size) {x:Operand} (hop:o.op= .load t x) (hx:a.eval x= .pointer (some ⟨b,base+vX (N cells) * (Λ κ).k+off,none⟩))
  (hh:(if cs.all plain then oo (fT (E.info t).td cs) fun v=>.done (put o.dst v)
    else oo o.dst fun d'=>if κ.1=d' then .fail else gS (au Fn LW IN) d' 0 cs fun ws cs'=>oo (lay off cs' cells) fun cells'=>oo (fT (E.info t).td cs') fun v=>
     .done (.n κ (N cells')::ws++[.s d' v])).holds σ K) :
  bG P ρ σ K o a w Q:=by
 have hlen:=qe _ _ _ _ hcut
 split at hh
 ·rename_i hp
  obtain⟨v,hm,hk⟩:=bS hh
  have hκ:=h'.nodes κ
  rw[hn] at hκ
  obtain⟨S',hc⟩:=hκ.bearer_at hB hloc
  have hc':=ai.cut _ _ _ _ _ _ hcut hc
  obtain⟨u,hrun,hv⟩:=nQ (P:=P) hE hc' hlen hm
  have hv':CR w imm (some Λ) v u Set.no:=pB hm hp hv
  exact aR h hd (by simp only[execOp,hop,hx,Sem.run_bind,hrun,Result.andThen_ok,Sem.run_pure]) hv' hk
 ·rename_i hp
  obtain⟨d,hod,hk⟩:=bS hh
  have hdn:=hd d hod
  obtain⟨n,hsz⟩:∃n,(E.info t).size=n+1:=by
   cases hz:(E.info t).size with
   |zero=>rw[hz] at hlen;cases cs <;> simp at hlen hp
   |succ n=>exact⟨n,rfl⟩
  rw[hsz] at hcut
  obtain⟨pre,post,rfl,rfl⟩:=sX _ _ _ _ hcut
  by_cases hne:κ.1=d
  ·rw[if_pos hne] at hk;exact hk.elim
  rw[if_neg hne] at hk
  obtain⟨ws,cs',Λ',F',τ,r1,r2,r3,⟨r4,r4'⟩,r5,r6,r7,r8,r9⟩:=kW (f:=fun _ _=>.fail) hB hne cs pre 0 σ' Λ F _ h' hn (fun j' _=>hn' (d,j') (fun e=>hne (by rw[←e]))) hk
  rw[sf _ _ _ _ r5] at r1
  obtain⟨v,hm,r1⟩:=bS (x:=fT _ _) r1
  have hκ:=r3.nodes κ
  rw[r7,r4'] at hκ
  obtain⟨S',hc⟩:=hκ.bearer_at hB hloc
  have hc':=ai.cut _ _ _ _ _ _ (xC pre cs' post) hc
  rw[hpos _ (pre++(cs++post))] at hc'
  obtain⟨u,hrun,hv⟩:=nQ (P:=P) hE hc' (by rw[r5];exact hlen) hm
  have hv':CR w imm (some Λ') v u Set.no:=pB hm r6 hv
  refine .inl ?_
  have hrun':(execOp a.eval o).run P w= .ok (.value u) w:=by simp only[execOp,hop,hx,Sem.run_bind,hrun,Result.andThen_ok,Sem.run_pure]
  simp only[Oper.wp,hrun',Oper.upon]
  refine⟨_,r1,imm,Λ',F',?_⟩
  have hput:=r3.put (d:=some d) (x:=v) (v:=u) (fun t ht=>by cases ht;exact hdn) hv'
  rw[hod]
  refine hput.congr (fun t=>?_) (fun x=>?_)
  ·show lkS (σ.upd (_::ws++[W.s d v])).slots t=lkS ((d,v)::τ.slots) t
   rw[qzH,St.upd,bo]
   show lkS ((d,v)::((σ.upd1 _).upd ws).slots) t=_
   rw[dD,dD,mr r2,r8,hs']
   rfl
  ·show lkN (σ.upd (_::ws++[W.s d v])).heap x.1 x.2=lkN τ.heap x.1 x.2
   rw[qzH,St.upd,bo]
   show lkN ((σ.upd1 (.n κ _)).upd ws).heap x.1 x.2=_
   by_cases e:x=κ
   ·subst e
    rw[l8 r2 x hne,r7]
    show lkN ((x,_)::σ.heap) x.1 x.2=_
    rw[aP,if_pos rfl]
   ·rw[r9 x e]
    refine mN (p:=fun y=>y≠κ) ws (fun y hy=>?_) x e
    show lkN ((κ,_)::σ.heap) y.1 y.2=_
    rw[aP,if_neg hy,hn' y hy]
end
end Go.Vm
/- Loads; lengths; parts of tuples, strings and slices. -/
namespace Go.Vm
section
variable {P:Program} {E:TE} {Fn:FuncId→List A→List A→A→Prop} {LW:Code→(Ex→St→Prop)→St→Prop} {IN:InT} {ρ:Env} {σ:St} {K:List W→Prop} {o:Oper} {a:Act} {w:World} {Q:Exit→Act→World→Prop} {imm:Set} {Λ:Lam} {F:Key→Set}

theorem tf (hE:EOk P E) (h:aD ρ σ a w imm Λ F) (hd:∀t,o.dst=some t→t<ρ.n) {t b p off:Nat} {x:Operand} (hop:o.op= .load t x) (hx:a.eval x= .pointer (some ⟨b,p+off,none⟩)) {row:List A}
  (hc:ai w imm none row b p Set.no) (hh:(oo (cut off (E.info t).size row) fun cs=>oo (fT (E.info t).td cs) fun v=>.done (put o.dst v)).holds σ K):bG P ρ σ K o a w Q:=by
 obtain⟨cs,hcut,hh⟩:=bS hh
 obtain⟨v,hm,hk⟩:=bS (x:=fT _ _) hh
 obtain⟨u,hrun,hv⟩:=nQ (P:=P) hE (ai.cut _ _ _ _ _ _ hcut hc) (qe _ _ _ _ hcut) hm
 exact aR h hd (by simp only[execOp,hop,hx,Sem.run_bind,hrun,Result.andThen_ok,Sem.run_pure]) (CR.any _ _ _ _ _ _ hv) hk

theorem DS (hE:EOk P E) (h:aD ρ σ a w imm Λ F) (hd:∀t,o.dst=some t→t<ρ.n) {t:Nat} {x:Operand} (ho:o.op= .load t x)
  (hh:(opd x fun x=>B8 E (au Fn LW IN) o.dst t x).holds σ K):bG P ρ σ K o a w Q:=by
 replace hh:=h.opd hh
 obtain⟨x',hx,hk⟩:=hh
 unfold B8 at hk
 split at hk
 ·rename_i row off
  simp only[CR] at hx
  obtain⟨b,p,e,hb,hr⟩:=hx
  exact tf hE h hd ho e hr hk
 ·rename_i κ g i off
  replace hk:=h.node hk
  obtain⟨nd,hnd,hN,hk⟩:=hk
  simp only[CR] at hx
  cases nd <;> simp only[Pg.holds] at hk <;> (try exact hk.elim)
  ·rename_i g' cells
   split at hk
   ·rename_i hg
    obtain⟨rfl,rfl⟩:=hg
    obtain⟨h1,h2,h3,b,base,size,S',h4,_⟩:=hN
    obtain⟨b',base',size',e1,e2⟩:=eG.at hx h1 (by rw[h4];simp)
    rw[h4] at e1
    simp only[Loc.at_.injEq] at e1
    obtain⟨rfl,rfl,rfl⟩:=e1
    obtain⟨cs,hcut,hk⟩:=bS hk
    exact pE hE h (.box g) (fun _ _=>rfl) hnd (fun _=>rfl) (fun _ _=>rfl) h hd hcut h4 ho e2 hk
   ·exact hk.elim
  ·rename_i g' k rows
   split at hk
   ·rename_i hg
    subst hg
    obtain⟨row,hrow,hk⟩:=hk
    obtain⟨h1,h2,h3,h4⟩:=id hN
    obtain⟨cs,hcut,hk⟩:=bS hk
    rcases h4 with⟨_,rfl⟩|⟨b,base,size,S',h4,_⟩
    ·simp[au] at hrow
    obtain⟨b',base',size',e1,e2⟩:=eG.at hx h1 (by rw[h4];simp)
    rw[h4] at e1
    simp only[Loc.at_.injEq] at e1
    obtain⟨rfl,rfl,rfl⟩:=e1
    have hopn:=NR.open_row hN hrow
    have h':aD ρ (σ.upd1 (.n κ (.opn g k rows i row))) a w imm Λ F:={ h with
     rs:=lE trivial fun x _=>h.rs x
     nodes:=fun y=>by
      show NR w imm Λ (Λ y) (lkN ((κ,_)::σ.heap) y.1 y.2) (F y)
      rw[aP]
      by_cases e:y=κ
      ·subst e;rw[if_pos rfl];exact hopn
      ·rw[if_neg e];exact h.nodes y }
    refine pE hE h (.opn g k rows i) (fun _ _=>rfl) (σ':=σ.upd1 (.n κ (.opn g k rows i row))) (κ:=κ) ?_ (fun _=>rfl) (fun y hy=>?_) h' hd hcut h4 ho e2 hk
    ·show lkN ((κ,_)::σ.heap) κ.1 κ.2=_
     rw[aP,if_pos rfl]
    ·show lkN ((κ,_)::σ.heap) y.1 y.2=_
     rw[aP,if_neg hy]
   ·exact hk.elim
  ·rename_i g' k rows j row
   split at hk
   ·rename_i hg
    subst hg
    obtain⟨rfl,hk⟩:=hk
    obtain⟨h1,h2,h3,b,base,size,S1,S2,h4,_⟩:=id hN
    obtain⟨b',base',size',e1,e2⟩:=eG.at hx h1 (by rw[h4];simp)
    rw[h4] at e1
    simp only[Loc.at_.injEq] at e1
    obtain⟨rfl,rfl,rfl⟩:=e1
    obtain⟨cs,hcut,hk⟩:=bS hk
    exact pE hE h (.opn g k rows i) (fun _ _=>rfl) hnd (fun _=>rfl) (fun _ _=>rfl) h hd hcut h4 ho e2 hk
   ·exact hk.elim
  ·rename_i g' cells
   split at hk
   ·rename_i hg
    obtain⟨rfl,rfl⟩:=hg
    obtain⟨h1,h2,h3,b,base,size,h4,h5,h6⟩:=hN
    obtain⟨b',base',size',e1,e2⟩:=eG.at hx h1 (by rw[h4];simp)
    rw[h4] at e1
    simp only[Loc.at_.injEq] at e1
    obtain⟨rfl,rfl,rfl⟩:=e1
    exact tf hE h hd ho (p:=base) (by rw[e2];simp) h6 hk
   ·exact hk.elim
  ·rename_i g' k rows
   split at hk
   ·rename_i hg
    subst hg
    obtain⟨row,hrow,hk⟩:=hk
    obtain⟨h1,h2,h3,h4⟩:=hN
    rcases h4 with⟨_,rfl⟩|⟨b,base,size,h4,h5,h6⟩
    ·simp[au] at hrow
    obtain⟨b',base',size',e1,e2⟩:=eG.at hx h1 (by rw[h4];simp)
    rw[h4] at e1
    simp only[Loc.at_.injEq] at e1
    obtain⟨rfl,rfl,rfl⟩:=e1
    obtain⟨_,hc⟩:=aq.at _ _ _ _ _ h6 hrow
    exact tf hE h hd ho (p:=base+i * k) (by rw[e2,h2]) hc hk
   ·exact hk.elim
 ·exact hk.elim

theorem eB.len {i:KI} {g j n:Nat} {u:Value} (h:eB i g j n u) (hg:i.gen=g) (hl:i.loc≠ .gone):∃ad cap,u= .slice ad n cap∧n≤cap:=by
 have h3:=h.2.1 hg.symm
 cases hl':i.loc with
 |gone=>exact absurd hl' hl
 |nil=>rw[hl'] at h3;obtain⟨_,rfl,e⟩:=h3;exact⟨none,0,e,qzi _⟩
 |at_ b base size=>rw[hl'] at h3;obtain⟨p,cap,e,h4,_⟩:=h3;exact⟨_,cap,e,h4⟩

/-- the fields of a call that is a builtin's -/
theorem Hs {t:Nat} {d:TypeDesc} (hd:P.underlying t=some d) {u:Value} {n:Int} (h:(∃s,d= .string∧u= .string s∧n=s.size)∨(∃e ad m cap,d= .slice e∧u= .slice ad m cap∧n=m)) {ty:TypeId} :
  (Builtin.len_ #[t] ty #[u]).run P w= .ok (.int .i64 n) w:=by
 rcases h with⟨s,rfl,rfl,rfl⟩|⟨e,ad,m,cap,rfl,rfl,rfl⟩ <;> simp[Builtin.len_,run_underlying hd,goInt]

theorem zF (h:aD ρ σ a w imm Λ F) (hd:∀t,o.dst=some t→t<ρ.n) {x:Operand} {i:Nat} (ho:o.op= .extract x i)
  (hh:(opd x fun t=>match t with
   | .tup vs=>oo vs[i]? fun v=>.done (put o.dst v)
   |_=>.fail).holds σ K):bG P ρ σ K o a w Q:=by
 replace hh:=h.opd hh
 obtain⟨x',hx,hk⟩:=hh
 split at hk
 ·rename_i vs
  obtain⟨v,hv,hk⟩:=bS hk
  simp only[CR] at hx
  obtain⟨us,e,hr⟩:=hx
  have key:∀(vs:List A) (us:List Value) (i:Nat),af w imm (some Λ) vs us Set.no→vs[i]? =some v→∃u,us[i]? =some u∧CR w imm (some Λ) v u Set.no:=by
   intro vs
   induction vs with
   |nil=>intro us i _ h;simp at h
   |cons q vs ih=>
    intro us i hr h
    cases us with
    |nil=>simp only[af] at hr
    |cons u us=>
     simp only[af] at hr
     obtain⟨S1,S2,h1,h2,h3,h4,_⟩:=hr
     cases i with
     |zero=>simp at h;subst h;exact⟨u,rfl,h1.mono h3⟩
     |succ i=>exact ih us i (h2.mono h4) (by simpa using h)
  obtain⟨u,hu,hv'⟩:=key vs us i hr hv
  exact aR h hd (by simp[execOp,ho,e,Instr.extract,hu]) hv' hk
 ·exact hk.elim

theorem xM (h:aD ρ σ a w imm Λ F) (hd:∀t,o.dst=some t→t<ρ.n) {x:Operand} (ho:o.op= .nilCheck x)
  (hh:(opd x fun a=>match a with
   | .mptr κ g _ _=>live κ g (.done (put o.dst a))
   | .iptr .. =>.done (put o.dst a)
   |_=>.fail).holds σ K):bG P ρ σ K o a w Q:=by
 replace hh:=h.opd hh
 obtain⟨x',hx,hk⟩:=hh
 split at hk
 ·rename_i κ g i off
  obtain⟨h1,h2,hk⟩:=h.live hk
  have hx':=hx
  simp only[CR] at hx
  obtain⟨b,base,size,_,e⟩:=eG.at hx h1 h2
  exact aR h hd (v:=a.eval x) (by simp only[execOp,ho];rw[e];rfl) hx' hk
 ·have hx':=hx
  simp only[CR] at hx
  obtain⟨b,p,e,_⟩:=hx
  exact aR h hd (v:=a.eval x) (by simp only[execOp,ho];rw[e];rfl) hx' hk
 ·exact hk.elim

theorem yv (h:aD ρ σ a w imm Λ F) (hd:∀t,o.dst=some t→t<ρ.n) {f:FuncId} {first captured:Array Operand} (ho:o.op= .makeFunc (.func f) first captured)
  (hh:(if first.size=0 then opds captured.toList fun cs=>.done (put o.dst (.clo f cs)) else Pg.fail).holds σ K):bG P ρ σ K o a w Q:=by
 split at hh
 ·rename_i hf
  obtain⟨ys,hys,hk⟩:=h.opds hh
  have:first= #[]:=Array.eq_empty_of_size_eq_zero hf
  subst this
  exact aR h hd (v:=.func (.func f) #[] (captured.map a.eval)) (by simp[execOp,ho,Instr.makeFunc]) (by simp only[CR];exact⟨_,by rw[show(captured.map a.eval)=(captured.toList.map a.eval).toArray from Array.ext' (by simp)],hys⟩) hk
 ·exact hh.elim

theorem AE (hE:EOk P E) (h:aD ρ σ a w imm Λ F) (hd:∀t,o.dst=some t→t<ρ.n) {t:Nat} {x y:Operand} (ho:o.op= .index t x y)
  (hh:(opd x fun x=>opd y fun i=>match x,i with
   | .lit (.string s),.lit (.int _ n)=>(if oW (E.info t).td then .need ((au Fn LW IN).lt n 0=false∧(au Fn LW IN).lt n ((au Fn LW IN).cast ((au Fn LW IN).ssize s))=true) (.done (put o.dst (.lit (.int .u8 ((au Fn LW IN).sget s ((au Fn LW IN).toNat n)))))) else .fail)
   |_,_=>.fail).holds σ K):bG P ρ σ K o a w Q:=by
 replace hh:=h.opd2 hh
 obtain⟨x',y',hx,hy,hk⟩:=hh
 split at hk
 ·rename_i s k n
  split at hk
  ·rename_i ht
   replace hx:=bM hx
   replace hy:=bM hy
   obtain⟨⟨h0,h1⟩,hk⟩:=hk
   replace h0:¬n<0:=by simpa [au] using h0
   replace h1:n<s.size:=by simpa [au] using h1
   obtain⟨i,d,z,_,_,_,hd',htd,_⟩:=hE t (.inr (by cases h:(E.info t).td <;> rw[h] at ht <;> simp[oW] at ht;rfl))
   have:d= .string:=by
    cases hq:(E.info t).td <;> rw[hq] at ht <;> simp[oW] at ht
    rw[hq] at htd
    cases d <;> simp only[ez] at htd
    rfl
   subst this
   have h2:n.toNat<s.size:=by omega
   refine aR h hd (v:=.int .u8 ((s[n.toNat]!).toNat:Nat)) ?_ eV hk
   simp[execOp,ho,hx,hy,Instr.index,asIntOf,run_underlying hd',show 0≤n by omega,h2]
  ·exact hk.elim
 ·exact hk.elim

theorem sJ {c:Call} {b:Builtin} (ho:o.op= .call c) (hb:c.callee= .builtin b):execOp a.eval o=builtin b c.argTypes o.type (c.args.map fun| .const _=>true|_=>false) (c.args.map a.eval):=by
 simp only[execOp,ho,resolve,hb]
 rfl
theorem CS {c:Call} {xs:List Operand} (h:c.args.toList=xs):c.args.map a.eval=(xs.map a.eval).toArray:=Array.ext' (by simp[h])
theorem Ge {c:Call} {ts:List TypeId} (h:c.argTypes.toList=ts):c.argTypes=ts.toArray:=Array.ext' (by simp[h])

theorem E6 (hE:EOk P E) (h:aD ρ σ a w imm Λ F) (hd:∀t,o.dst=some t→t<ρ.n) {c:Call} (ho:o.op= .call c) (hb:c.callee= .builtin .len) {x:Operand} {t:Nat} (hx:c.args.toList=[x]) (ht:c.argTypes.toList=[t])
  (hh:(opd x fun x=>DU E (au Fn LW IN) o.dst t x).holds σ K):bG P ρ σ K o a w Q:=by
 replace hh:=h.opd hh
 obtain⟨x',hxv,hk⟩:=hh
 have key:∀{n:Int} {d:TypeDesc},P.underlying t=some d→((∃s,d= .string∧a.eval x= .string s∧n=s.size)∨(∃e ad m cap,d= .slice e∧a.eval x= .slice ad m cap∧n=m))→
   K (put o.dst (.lit (.int .i64 n)))→bG P ρ σ K o a w Q:=by
  intro n d hd' hu hk
  refine aR h hd (v:=.int .i64 n) ?_ eV hk
  rw[sJ ho hb,CS hx,Ge ht]
  have:=Hs (P:=P) (w:=w) hd' hu (ty:=o.type)
  simp only[builtin,Sem.run_bind,qzG,pC,this,Result.andThen_ok,Sem.run_pure]
 have hstr:oW (E.info t).td=true→P.underlying t=some .string:=by
  intro hs
  obtain⟨i,d,z,_,_,_,hd',htd,_⟩:=hE t (.inr (by cases h:(E.info t).td <;> rw[h] at hs <;> simp[oW] at hs;rfl))
  cases hq:(E.info t).td <;> rw[hq] at hs <;> simp[oW] at hs
  rw[hq] at htd
  cases d <;> simp only[ez] at htd
  exact hd'
 have hsl:iz (E.info t).td=true→∃e,P.underlying t=some (.slice e):=by
  intro hs
  obtain⟨i,d,z,_,_,_,hd',htd,_⟩:=hE t (.inr (by cases h:(E.info t).td <;> rw[h] at hs <;> simp[iz] at hs;rfl))
  cases hq:(E.info t).td <;> rw[hq] at hs <;> simp[iz] at hs
  rw[hq] at htd
  cases d <;> simp only[ez] at htd
  exact⟨_,hd'⟩
 unfold DU at hk
 split at hk
 ·split at hk
  ·rename_i s hs
   exact key (hstr hs) (.inl ⟨s,rfl,bM hxv,rfl⟩) hk
  ·exact hk.elim
 ·split at hk
  ·rename_i hs
   obtain⟨e,hd'⟩:=hsl hs
   split at hk
   ·exact key hd' (.inr ⟨e,_,_,_,rfl,bM hxv,rfl⟩) hk
   ·simp only[CR] at hxv
    obtain⟨ad,e1⟩:=hxv
    exact key hd' (.inr ⟨e,_,_,_,rfl,e1,rfl⟩) hk
   ·simp only[CR] at hxv
    obtain⟨ad,cap,e1,_⟩:=hxv
    exact key hd' (.inr ⟨e,_,_,_,rfl,e1,rfl⟩) hk
   ·obtain⟨h1,h2,hk⟩:=h.live hk
    simp only[CR] at hxv
    obtain⟨ad,cap,e1,_⟩:=eB.len hxv h1 h2
    exact key hd' (.inr ⟨e,_,_,_,rfl,e1,rfl⟩) hk
   ·exact hk.elim
  ·exact hk.elim

theorem sj (h:aD ρ σ a w imm Λ F) (hd:∀t,o.dst=some t→t<ρ.n) {c:Call} (ho:o.op= .call c) {x y:Operand} (hx:c.args.toList=[x,y]) {mx:Bool} (hb:c.callee= .builtin (if mx then .max else .min))
  (hh:(opd x fun x=>opd y fun y=>match x,y with
   | .lit (.int k p),.lit (.int _ q)=>.done (put o.dst (.lit (.int k (cond (if mx then(au Fn LW IN).lt p q else(au Fn LW IN).lt q p) q p))))
   |_,_=>.fail).holds σ K):bG P ρ σ K o a w Q:=by
 replace hh:=h.opd2 hh
 obtain⟨x',y',hxv,hyv,hk⟩:=hh
 split at hk
 ·rename_i k p k' q
  replace hxv:=bM hxv
  replace hyv:=bM hyv
  refine aR h hd (v:=.int k (cond (if mx then decide (p<q) else decide (q<p)) q p)) ?_ eV hk
  rw[sJ ho hb,CS hx]
  cases mx
  ·simp only[builtin,Sem.run_bind,qzG,pC,hxv,hyv,qzw,if_false]
   by_cases hpq:q<p <;> simp[Builtin.min_,Builtin.min2,hpq]
  ·simp only[builtin,Sem.run_bind,qzG,pC,hxv,hyv,if_true]
   by_cases hpq:p<q <;> simp[Builtin.max_,Builtin.max2,hpq]
 ·exact hk.elim

theorem DW (hE:EOk P E) (h:aD ρ σ a w imm Λ F) (hd:∀t,o.dst=some t→t<ρ.n) {s t:Nat} {x:Operand} (ho:o.op= .convert s t x)
  (hh:(opd x fun a=>match a,(E.info t).td with
   | .lit (.int _ n),.int k=>if iK (E.info s).td then .fail else .done (put o.dst (qt (au Fn LW IN) k n))
   | .lit (.string u),.str=>if iK (E.info s).td then .fail else .done (put o.dst (.lit (.string u)))
   | .ref κ g i n,.str=>Ca E (au Fn LW IN) o.dst s κ g i n
   |_,_=>.fail).holds σ K):bG P ρ σ K o a w Q:=by
 replace hh:=h.opd hh
 obtain⟨x',hx,hk⟩:=hh
 split at hk
 ·rename_i k0 n k ht
  split at hk
  ·exact hk.elim
  ·rename_i hs
   obtain⟨i,d,z,_,_,_,hd',htd,_⟩:=hE t (.inr (by rw[ht];rfl))
   obtain⟨i2,d2,z2,_,_,_,hd2,htd2,_⟩:=hE s (.inr (by simpa using hs))
   rw[ht] at htd
   cases d <;> simp only[ez] at htd
   subst htd
   refine aR h hd ?_ eV hk
   simp only[execOp,ho,bM hx,convert,Sem.run_bind,run_underlying hd',run_underlying hd2,Result.andThen_ok]
   cases d2 <;> rfl
 ·rename_i u ht
  split at hk
  ·exact hk.elim
  ·rename_i hs
   obtain⟨i,d,z,_,_,_,hd',htd,_⟩:=hE t (.inr (by rw[ht];rfl))
   obtain⟨i2,d2,z2,_,_,_,hd2,htd2,_⟩:=hE s (.inr (by simpa using hs))
   rw[ht] at htd
   cases d <;> simp only[ez] at htd
   refine aR h hd ?_ eV hk
   simp only[execOp,ho,bM hx,convert,Sem.run_bind,run_underlying hd',run_underlying hd2,Result.andThen_ok]
   cases d2 <;> rfl
 ·rename_i κ g i n ht
  unfold Ca at hk
  split at hk
  ·rename_i e hs
   split at hk
   ·rename_i hu
    obtain⟨nd,hnd,hN,hk1⟩:=h.node hk
    clear hk
    have hk:=hk1
    clear hk1
    split at hk
    ·rename_i g' k rows
     split at hk
     ·rename_i b
      split at hk
      ·rename_i hg
       obtain⟨rfl,rfl⟩:=hg
       obtain⟨hn,hk⟩:=hk
       simp only[au,qzm,u9] at hn
       subst hn
       obtain⟨h1,h2,h3,h4⟩:=hN
       obtain⟨it,dt,z,_,_,_,hdt,htd,_⟩:=hE t (.inr (by rw[ht];rfl))
       obtain⟨is,ds,z2,_,_,_,hds,htds,_⟩:=hE s (.inr (by rw[hs];rfl))
       have he:(E.info e).td= .int .u8:=by
        cases hq:(E.info e).td <;> rw[hq] at hu <;> simp[Iq] at hu
        rename_i k'
        cases k' <;> simp_all
       obtain⟨ie,de,z3,_,_,_,hde,htde,_⟩:=hE e (.inr (by rw[he];rfl))
       rw[ht] at htd
       rw[hs] at htds
       rw[he] at htde
       cases dt <;> simp only[ez] at htd
       cases ds <;> simp only[ez] at htds
       cases de <;> simp only[ez] at htde
       subst htds
       subst htde
       rcases h4 with⟨_,h4⟩|⟨b',base,size,S',h4,h5,h6,h7,h8,h9,h10⟩
       ·cases h4
       simp only[CR] at hx
       have hr:=hx.2.1 h1.symm
       rw[h4] at hr
       obtain⟨p,cap,hv,hcap,_,hp,hcp⟩:=hr
       have hp':p=base:=by rcases hcp with hcp|hcp <;> omega
       subst hp'
       obtain⟨_,hc⟩:=aq.at _ _ _ _ _ h10 (show([[A.lit (.int .u8 b)]]:Rows)[0]? =some [A.lit (.int .u8 b)] from rfl)
       obtain⟨vs,hl,hcell,hvs⟩:=hc.vals
       obtain⟨v,rfl⟩:∃v,vs=[v]:=by
        cases vs with
        |nil=>simp at hl
        |cons v vs=>cases vs with
         |nil=>exact⟨v,rfl⟩
         |cons _ _=>simp at hl
       simp only[af,CR] at hvs
       obtain⟨_,_,rfl,_⟩:=hvs
       have hrun:=ga (P:=P) b' p w [.int .u8 b] 0 #[] (by simpa using hcell)
       refine aR h hd ?_ eV hk
       simp only[execOp,ho,hv,convert,Sem.run_bind,run_underlying hdt,run_underlying hds,run_underlying hde,Result.andThen_ok,Conv.bytesToString,loadCells]
       simp only[qzm,u9,qP] at hrun
       rw[hrun]
       simp[byte1]
      ·exact hk.elim
     ·exact hk.elim
    ·exact hk.elim
   ·exact hk.elim
  ·exact hk.elim
 ·exact hk.elim
theorem BS (hE:EOk P E) (h:aD ρ σ a w imm Λ F) (hd:∀t,o.dst=some t→t<ρ.n) {s f:Nat} {x:Operand} (ho:o.op= .field s x f)
  (hh:(opd x fun x=>uL E o.dst s f x).holds σ K):bG P ρ σ K o a w Q:=by
 obtain⟨x',hx,hk⟩:=h.opd hh
 clear hh
 unfold uL at hk
 split at hk
 ·rename_i fs hfs
  obtain⟨⟨p,u⟩,hf,hk1⟩:=bS hk
  clear hk
  have hk:=hk1
  clear hk1
  simp only at hk
  split at hk
  ·exact hk.elim
  ·rename_i hu
   simp only[not_or] at hu
   obtain⟨i,d,z,hi,_,_,hd',htd,_⟩:=hE s (.inr (by rw[hfs];rfl))
   obtain⟨i',d',z',hi',hsz,_,hd2,htd2,_⟩:=hE u (.inl hu.2)
   rw[hfs] at htd
   cases d <;> simp only[ez] at htd
   rename_i fields
   have hfl:∃fld:Field,fields[f]? =some fld∧fld.offset=p∧fld.type=u:=by
    rw[←htd] at hf
    simp only[qzC,qzY,oM,sv] at hf
    exact hf
   obtain⟨fld,hfl,rfl,rfl⟩:=hfl
   split at hk
   ·rename_i cs
    obtain⟨c,hc,hk1⟩:=bS hk
    clear hk
    have hk:=hk1
    clear hk1
    simp only[CR] at hx
    obtain⟨vs,e,hv⟩:=hx
    have key:∀(cs:List A) (us:List Value) (i:Nat),af w imm (some Λ) cs us Set.no→cs[i]? =some c→∃u,us[i]? =some u∧CR w imm (some Λ) c u Set.no:=by
     intro cs
     induction cs with
     |nil=>intro us i _ h;simp at h
     |cons q vs ih=>
      intro us i hr h
      cases us with
      |nil=>simp only[af] at hr
      |cons u us=>
       simp only[af] at hr
       obtain⟨S1,S2,h1,h2,h3,h4,_⟩:=hr
       cases i with
       |zero=>simp only[qzs,qzh] at h;subst h;exact⟨u,rfl,h1.mono h3⟩
       |succ i=>exact ih us i (h2.mono h4) (by simpa using h)
    obtain⟨u,hu',hcu⟩:=key cs vs _ hv hc
    refine aR h hd ?_ hcu hk
    simp only[execOp,ho,Instr.field,Sem.run_bind,run_underlying hd',Result.andThen_ok,hfl,e,asAgg,Sem.run_pure,part,sL hd2 htd2,hu.1]
    simp[hu']
   ·exact hk.elim
 ·exact hk.elim
end
end Go.Vm
/- Parts of strings and slices. -/
namespace Go.Vm
section
variable {P:Program} {E:TE} {Fn:FuncId→List A→List A→A→Prop} {LW:Code→(Ex→St→Prop)→St→Prop} {IN:InT} {ρ:Env} {σ:St} {K:List W→Prop} {o:Oper} {a:Act} {w:World} {Q:Exit→Act→World→Prop} {imm:Set} {Λ:Lam} {F:Key→Set}

def IH (w:World) (imm:Set) (Λ:Lam) (a:Act) (x:Option Operand) (y:Option A):Prop:=match x,y with
 |none,none=>True
 |some x,some y=>CR w imm (some Λ) y (a.eval x) Set.no
 |_,_=>False
theorem aD.opdo (h:aD ρ σ a w imm Λ F) {x:Option Operand} {f:Option A→Pg} (hh:(Vm.opdo x f).holds σ K) :
  ∃y,(f y).holds σ K∧IH w imm Λ a x y:=by
 cases x with
 |none=>exact⟨none,hh,trivial⟩
 |some x=>obtain⟨y,hy,hk⟩:=h.opd hh;exact⟨some y,hk,hy⟩
theorem gv {x:Option A} {dflt:Int} {f:Int→Pg} (hh:(k9 x dflt f).holds σ K):∃n,(f n).holds σ K∧((x=none∧n=dflt)∨∃k,x=some (.lit (.int k n))):=by
 unfold k9 at hh
 split at hh
 ·exact⟨_,hh,.inl ⟨rfl,rfl⟩⟩
 ·exact⟨_,hh,.inr ⟨_,rfl⟩⟩
 ·exact hh.elim

theorem fE {k:IntKind} {i:Int} {y:Nat} {c:BoundsCode} (h:0≤i∧i≤y):(Instr.sliceBound (.int k i) y c).run P w= .ok i.toNat w:=by
 simp only[Instr.sliceBound,asIntOf,Sem.run_bind,Sem.run_pure,Result.andThen_ok,if_pos h]
/-- the bounds as they come out -/
theorem qK (isS:Bool) {len cap:Nat} {lo hi:Option Value} {l h:Int} (hlo:(lo=none∧l=0)∨∃k,lo=some (.int k l)) (hhi:(hi=none∧h=len)∨∃k,hi=some (.int k h)) (h0:0≤l) (h1:l≤h) (h2:h≤cap) :
  (Instr.sliceBounds isS len cap lo hi none).run P w= .ok (l.toNat,h.toNat,cap) w:=by
 rcases hhi with⟨rfl,rfl⟩|⟨k,rfl⟩ <;> rcases hlo with⟨rfl,rfl⟩|⟨k',rfl⟩ <;> simp only[Instr.sliceBounds,Sem.run_bind,Sem.run_pure,Result.andThen_ok]
 ·simp
 ·rw[fE ⟨h0,h1⟩];simp
 ·rw[fE ⟨by omega,h2⟩];simp
 ·rw[fE ⟨by omega,h2⟩]
  simp only[Result.andThen_ok]
  rw[fE ⟨h0,by omega⟩];simp

theorem aq.drop {x:Option Lam} {b k:Nat} {S:Set}:∀(i:Nat) (rows:Rows) (p:Nat),aq w imm x rows b p k S→aq w imm x (rows.drop i) b (p+i * k) k S
 |0,rows,p,h=>by simpa using h
 |i+1,[],p,h=>by simp[aq]
 |i+1,r::rows,p,h=>by
  simp only[aq] at h
  obtain⟨S1,S2,h1,h2,h3,h4,h5,h6⟩:=h
  have:=aq.drop i rows (p+k) (h3.mono h5)
  rw[show p+(i+1) * k=p+k+i * k by rw[qzJ];omega]
  simpa using this
theorem aq.take {x:Option Lam} {b k:Nat}:∀(n:Nat) (rows:Rows) (p:Nat) (S:Set),aq w imm x rows b p k S→aq w imm x (rows.take n) b p k S
 |0,rows,p,S,h=>by simp[aq]
 |n+1,[],p,S,h=>by simp[aq]
 |n+1,r::rows,p,S,h=>by
  simp only[aq,List.take_succ_cons] at h⊢
  obtain⟨S1,S2,h1,h2,h3,h4⟩:=h
  exact⟨S1,S2,h1,h2,aq.take n rows (p+k) S2 h3,h4⟩

theorem lA {x:Option Operand} {y:Option A} {n dflt:Int} (hx:IH w imm Λ a x y) (hy:(y=none∧n=dflt)∨∃k,y=some (.lit (.int k n))):(x.map a.eval=none∧n=dflt)∨∃k,x.map a.eval=some (.int k n):=by
 rcases hy with⟨rfl,rfl⟩|⟨k,rfl⟩
 ·cases x with
  |none=>exact .inl ⟨rfl,rfl⟩
  |some x=>exact hx.elim
 ·cases x with
  |none=>exact hx.elim
  |some x=>
   have hx':CR w imm (some Λ) (.lit (.int k n)) (a.eval x) Set.no:=hx
   exact .inr ⟨k,by simp only[qzL];rw[bM hx']⟩

theorem Cw (hE:EOk P E) (h:aD ρ σ a w imm Λ F) (hd:∀t,o.dst=some t→t<ρ.n) {t:Nat} {x:Operand} {lo hi mx:Option Operand} (ho:o.op= .slice t x lo hi mx)
  (hh:(opd x fun x=>opdo lo fun l=>opdo hi fun h=>opdo mx fun m=>yl E (au Fn LW IN) o.dst t x l h m).holds σ K):bG P ρ σ K o a w Q:=by
 obtain⟨x',hx,hh1⟩:=h.opd hh
 clear hh
 obtain⟨lo',hh2,hlo⟩:=h.opdo hh1
 clear hh1
 obtain⟨hi',hh3,hhi⟩:=h.opdo hh2
 clear hh2
 obtain⟨mx',hh,hmx⟩:=h.opdo hh3
 clear hh3
 unfold yl at hh
 split at hh
 ·-- a string
  rename_i s ht
  replace hh:=gv hh
  obtain⟨l,hh,hl⟩:=hh
  replace hh:=gv hh
  obtain⟨r,hh,hr⟩:=hh
  obtain⟨⟨h0,h1,h2⟩,hk⟩:=hh
  replace h0:¬l<0:=by simpa [au] using h0
  replace h1:¬r<l:=by simpa [au] using h1
  replace h2:¬(s.size:Int)<r:=by simpa [au] using h2
  have hm:mx=none:=by cases mx with
   |none=>rfl
   |some m=>exact hmx.elim
  subst hm
  obtain⟨i,d,z,_,_,_,hd',htd,_⟩:=hE t (.inr (by rw[ht];rfl))
  rw[ht] at htd
  cases d <;> simp only[ez] at htd
  have hb:=qK (P:=P) (w:=w) false (len:=s.size) (cap:=s.size) (lA hlo hl) (lA hhi hr) qom qom qom
  refine aR h hd (v:=.string (s.extract l.toNat r.toNat)) ?_ eV hk
  simp only[execOp,ho,Instr.sliceAt,Instr.slice,Sem.run_bind,run_underlying hd',Result.andThen_ok,bM hx,Option.map_none,hb,Sem.run_pure,Option.isSome_none,qzw,if_false]
 ·-- a tree
  rename_i e rows ht
  split at hh
  ·exact hh.elim
  rename_i hsz
  replace hh:=gv hh
  obtain⟨l,hh,hl⟩:=hh
  replace hh:=gv hh
  obtain⟨r,hh,hr⟩:=hh
  obtain⟨⟨h0,h1,h2,hW⟩,hk⟩:=hh
  replace h0:¬l<0:=by simpa [au] using h0
  replace h1:¬r<l:=by simpa [au] using h1
  replace h2:¬(rows.length:Int)<r:=by simpa [au] using h2
  have hm:mx=none:=by cases mx with
   |none=>rfl
   |some m=>exact hmx.elim
  subst hm
  obtain⟨i,d,z,_,_,_,hd',htd,_⟩:=hE t (.inr (by rw[ht];rfl))
  rw[ht] at htd
  cases d <;> simp only[ez] at htd
  rename_i el
  obtain rfl:e=el:=htd.symm
  obtain⟨i',d',z',hi',hsz',_⟩:=hE e (.inl hsz)
  simp only[CR] at hx
  obtain⟨ad,cap,e1,hcap,hrows⟩:=hx
  have hb:=qK (P:=P) (w:=w) true (len:=rows.length) (cap:=cap) (lA hlo hl) (lA hhi hr) qom qom qom
  refine aR h hd (v:=.slice (if cap=l.toNat then ad else ad.map (·.add (l.toNat * i'.size))) (r.toNat-l.toNat) (cap-l.toNat)) ?_ ?_ hk
  ·simp only[execOp,ho,Instr.sliceAt,Instr.slice,Sem.run_bind,run_underlying hd',Result.andThen_ok,e1,Option.map_none,hb,Sem.run_pure,eO hi']
  ·simp only[CR]
   have hlen:((au Fn LW IN).part rows ((au Fn LW IN).toNat l) ((au Fn LW IN).toNat ((au Fn LW IN).sub r l))).length=r.toNat-l.toNat:=by
    simp only[au,qzZ,qzU];omega
   refine⟨_,cap-l.toNat,by rw[hlen],by rw[hlen];omega,?_⟩
   by_cases hz:r=l
   ·left
    apply qzA
    rw[hlen];omega
   ·right
    rcases hrows with rfl|⟨b,p,k,rfl,hb',hR⟩
    ·simp at h2;omega
    refine⟨b,p+l.toNat * i'.size,k,?_,hb',?_⟩
    ·rw[if_neg qom];simp[Addr.add_mk]
    ·have hk':k=i'.size:=by
      cases rows with
      |nil=>simp at h2;omega
      |cons r0 rs=>
       have:=hW r0 (by simp)
       simp only[aq] at hR
       obtain⟨_,_,hR,_⟩:=hR
       rw[hsz',←this,hR]
     rw[hk'] at hR⊢
     exact aq.take _ _ _ _ (aq.drop _ _ _ hR)
 ·-- a slice of the frame's own
  rename_i e κ g j n ht
  replace hh:=gv hh
  obtain⟨l,hh,hl⟩:=hh
  replace hh:=gv hh
  obtain⟨r,hh,hr⟩:=hh
  obtain⟨⟨h0,h1,h2⟩,hk⟩:=hh
  replace h0:¬l<0:=by simpa [au] using h0
  replace h1:¬r<l:=by simpa [au] using h1
  replace h2:¬(n:Int)<r:=by simpa [au] using h2
  have hm:mx=none:=by cases mx with
   |none=>rfl
   |some m=>exact hmx.elim
  subst hm
  obtain⟨i,d,z,_,_,_,hd',htd,_⟩:=hE t (.inr (by rw[ht];rfl))
  rw[ht] at htd
  cases d <;> simp only[ez] at htd
  rename_i el
  obtain rfl:e=el:=htd.symm
  replace hk:=h.node hk
  obtain⟨nd,hnd,hN,hk⟩:=hk
  simp only[CR] at hx
  have key:∀{k'},(Λ κ).gen=g→(Λ κ).k=k'→(Λ κ).loc≠ .gone→k'=(E.info e).size∧(E.info e).size≠0→K (put o.dst (.ref κ g (j+l.toNat) (r-l).toNat))→bG P ρ σ K o a w Q:=by
   rintro k' hg hkk hloc ⟨hs,hz⟩ hk
   obtain⟨i',d',z',hi',hsz',_⟩:=hE e (.inl hz)
   obtain⟨ad,cap,e1,hcap⟩:=eB.len hx hg hloc
   have hb:=qK (P:=P) (w:=w) true (len:=n) (cap:=cap) (lA hlo hl) (lA hhi hr) qom qom qom
   refine aR h hd (v:=.slice (if cap=l.toNat then ad else ad.map (·.add (l.toNat * i'.size))) (r.toNat-l.toNat) (cap-l.toNat)) ?_ ?_ hk
   ·simp only[execOp,ho,Instr.sliceAt,Instr.slice,Sem.run_bind,run_underlying hd',Result.andThen_ok,e1,Option.map_none,hb,Sem.run_pure,eO hi']
   ·simp only[CR]
    have h3:=hx.2.1 hg.symm
    refine⟨hx.1,fun _=>?_,_,_,_,rfl⟩
    have hrl:(r-l).toNat=r.toNat-l.toNat:=by omega
    cases hl':(Λ κ).loc with
    |gone=>exact absurd hl' hloc
    |nil=>
     rw[hl'] at h3
     obtain⟨rfl,rfl,e2⟩:=h3
     rw[e1] at e2
     simp only[Value.slice.injEq] at e2
     obtain⟨rfl,_,rfl⟩:=e2
     refine⟨by omega,by omega,?_⟩
     rw[if_pos qom]
     congr 1 <;> omega
    |at_ b base size=>
     rw[hl'] at h3
     obtain⟨p,cap',e2,g1,g2,g3,g4⟩:=h3
     rw[e1] at e2
     simp only[Value.slice.injEq,true_and] at e2
     obtain⟨rfl,rfl⟩:=e2
     by_cases hc:cap=l.toNat
     ·refine⟨p,0,?_,by omega,by omega,g3,.inl rfl⟩
      rw[if_pos hc];congr 1 <;> omega
     ·rcases g4 with g4|⟨rfl,g5⟩
      ·omega
      ·have hmul:(l.toNat+(cap-l.toNat)) * (Λ κ).k=cap * (Λ κ).k:=by congr 1;omega
       rw[qzJ] at hmul
       refine⟨base+j * (Λ κ).k+l.toNat * (Λ κ).k,cap-l.toNat,?_,by omega,by omega,by omega,.inr ⟨by rw[qzJ];omega,by omega⟩⟩
       rw[if_neg hc,hsz',←hs,←hkk,hrl]
       simp[Addr.add_mk]
  cases nd <;> simp only[Pg.holds] at hk <;> (try exact hk.elim)
  ·split at hk
   ·rename_i hc
    obtain⟨rfl,hc⟩:=hc
    obtain⟨h1,h2,h3,h4⟩:=hN
    exact key h1 h2 (by rcases h4 with⟨e,_⟩|⟨_,_,_,_,e,_⟩ <;> rw[e] <;> simp) hc hk
   ·exact hk.elim
  ·split at hk
   ·rename_i hc
    obtain⟨rfl,hc⟩:=hc
    obtain⟨h1,h2,h3,h4⟩:=hN
    exact key h1 h2 (by rcases h4 with⟨e,_⟩|⟨_,_,_,e,_⟩ <;> rw[e] <;> simp) hc hk
   ·exact hk.elim
 ·-- nothing of a tree, with no room
  rename_i e rows k m ht
  split at hh
  ·exact hh.elim
  rename_i hsz
  replace hh:=gv hh
  obtain⟨l,hh,hl⟩:=hh
  replace hh:=gv hh
  obtain⟨r,hh,hr⟩:=hh
  obtain⟨⟨rfl,rfl,rfl⟩,hk⟩:=hh
  obtain⟨i,d,z,_,_,_,hd',htd,_⟩:=hE t (.inr (by rw[ht];rfl))
  rw[ht] at htd
  cases d <;> simp only[ez] at htd
  rename_i el
  obtain rfl:e=el:=htd.symm
  obtain⟨i',d',z',hi',hsz',_⟩:=hE e (.inl hsz)
  simp only[CR] at hx
  obtain⟨ad,cap,e1,hcap,_⟩:=hx
  have hm:∃mo,mx=some mo∧a.eval mo= .int k 0:=by
   cases mx with
   |none=>exact hmx.elim
   |some mo=>
    have hm':CR w imm (some Λ) (.lit (.int k 0)) (a.eval mo) Set.no:=hmx
    exact⟨mo,rfl,bM hm'⟩
  obtain⟨mo,rfl,hmo⟩:=hm
  have hhi':∃k,hi.map a.eval=some (.int k 0):=by
   rcases lA hhi hr with⟨_,h⟩|h
   ·exact absurd h (by decide)
   ·exact h
  obtain⟨kh,hhi'⟩:=hhi'
  refine aR h hd (v:=.slice ad 0 0) ?_ (by simp only[CR];exact⟨ad,rfl⟩) hk
  have hb:(Instr.sliceBounds true rows.length cap (lo.map a.eval) (hi.map a.eval) ((some mo).map a.eval)).run P w= .ok (0,0,0) w:=by
   rw[hhi']
   simp only[qzL,hmo]
   rcases lA hlo hl with⟨e,_⟩|⟨kl,e⟩ <;> rw[e] <;> simp only[Instr.sliceBounds,Sem.run_bind,Sem.run_pure,Result.andThen_ok] <;>
    rw[fE ⟨ml _,by omega⟩] <;> simp only[Result.andThen_ok] <;> rw[fE ⟨ml _,by simp⟩] <;> simp only[Result.andThen_ok]
   ·simp
   ·rw[fE ⟨ml _,by simp⟩];simp
  simp only[execOp,ho,Instr.sliceAt,Instr.slice,Sem.run_bind,run_underlying hd',Result.andThen_ok,e1,hb,Sem.run_pure,eO hi']
  simp
 ·exact hh.elim
end
end Go.Vm
/- New memory: boxes, slices that are written out or made. -/
namespace Go.Vm
section
variable {P:Program} {E:TE} {Fn:FuncId→List A→List A→A→Prop} {LW:Code→(Ex→St→Prop)→St→Prop} {IN:InT} {ρ:Env} {σ:St} {K:List W→Prop} {o:Oper} {a:Act} {w:World} {Q:Exit→Act→World→Prop} {imm:Set} {Λ:Lam} {F:Key→Set}

theorem NR.stable {w':World} {imm':Set} {Λ':Lam} {i:KI} {n:HN} {S:Set} (hi:Set.le imm imm') (he:∀b,imm b→w'.heap[b]? =w.heap[b]?) (hs:∀b,S b→w'.heap[b]? =w.heap[b]?) (hl:bF Λ Λ') (h:NR w imm Λ i n S):NR w' imm' Λ' i n S:=by
 have hrow:∀{rows b p k T},Set.le T S→S b→aq w imm none rows b p k T→aq w' imm' none rows b p k T:=fun hT hb h=>
  aq.stable hi he none none _ _ _ _ _ _ trivial (Set.le_refl _) (hs _ hb) (fun y hy=>hs y (hT y hy)) h
 have hcell:∀{cs b p T},Set.le T S→S b→ai w imm (some Λ) cs b p T→ai w' imm' (some Λ') cs b p T:=fun hT hb h=>
  ai.stable hi he (some Λ) (some Λ') _ _ _ _ _ hl (Set.le_refl _) (hs _ hb) (fun y hy=>hs y (hT y hy)) h
 cases n <;> simp only[NR] at h⊢
 ·exact h
 ·obtain⟨h1,h2,h3,b,base,size,S',h4,h5,h6,h7,h8,h9,h10⟩:=h
  exact⟨h1,h2,h3,b,base,size,S',h4,h5,h6,h7,h8.same (hs b h5),h9,hcell h7 h5 h10⟩
 ·obtain⟨h1,h2,h3,h⟩:=h
  refine⟨h1,h2,h3,h.imp id ?_⟩
  rintro⟨b,base,size,S',h4,h5,h6,h7,h8,h9,h10⟩
  exact⟨b,base,size,S',h4,h5,h6,h7,h8.same (hs b h5),h9,hrow h7 h5 h10⟩
 ·obtain⟨h1,h2,h3,b,base,size,S1,S2,h4,h5,h6,h7,h8,h9,h10,h11,h12,h13,h14,h15,h16⟩:=h
  exact⟨h1,h2,h3,b,base,size,S1,S2,h4,h5,h6,h7,h8,h9,h10,h11.same (hs b h5),h12,h13,h14,hcell h8 h5 h15,h16.stable hi he (hs b h5) (fun y hy=>hs y (h9 y hy))⟩
 ·obtain⟨h1,h2,h3,b,base,size,h4,h5,h6⟩:=h
  exact⟨h1,h2,h3,b,base,size,h4,hi b h5,ai.stable hi he none none _ _ _ _ _ trivial (Set.le_refl _) (he b h5) (fun _ z=>z.elim) h6⟩
 ·obtain⟨h1,h2,h3,h⟩:=h
  refine⟨h1,h2,h3,h.imp id ?_⟩
  rintro⟨b,base,size,h4,h5,h6⟩
  exact⟨b,base,size,h4,hi b h5,aq.stable hi he none none _ _ _ _ _ _ trivial (Set.le_refl _) (he b h5) (fun _ z=>z.elim) h6⟩

/-- one step of memory and of what is known of it -/
theorem aD.step (h:aD ρ σ a w imm Λ F) {σ':St} {w':World} {imm':Set} {Λ':Lam} {F':Key→Set} (hs:∀t,lkS σ'.slots t=lkS σ.slots t) (hi:Set.le imm imm') (he:∀b,imm b→w'.heap[b]? =w.heap[b]?)
  (hsz:w.heap.size≤w'.heap.size) (hk:∀b,b<w.heap.size→(¬∃κ,F κ b)→w'.heap[b]? =w.heap[b]?) (hl:bF Λ Λ') (hn:∀κ:Key,NR w' imm' Λ' (Λ' κ) (lkN σ'.heap κ.1 κ.2) (F' κ))
  (hd:∀κ κ',κ≠κ'→Set.dis (F' κ) (F' κ')) (hf:∀κ,Set.dis (F' κ) imm') (hflt:∀κ b,F' κ b→(∃κ',F κ' b)∨(w.heap.size≤b∧b<w'.heap.size))
  (himm:∀b,imm' b→imm b∨(∃κ,F κ b)∨(w.heap.size≤b∧b<w'.heap.size)) (hos:w'.os=w.os∧w'.output=w.output∧w'.tape=w.tape∧aO w w')
  (hrs:∀κ:Key,RS ρ w' (Λ' κ) (lkN σ'.heap κ.1 κ.2)):aD ρ σ' a w' imm' Λ' F' where
 rs:=hrs
 size:=h.size
 nlt:=h.nlt
 slots t:=by rw[hs];exact CR.stable hi he (some Λ) (some Λ') _ _ _ _ hl (Set.le_refl _) (fun _ z=>z.elim) (h.slots t)
 nodes:=hn
 dis:=hd
 fimm:=hf
 flt κ b hb:=by
  rcases hflt κ b hb with⟨κ',h'⟩|⟨h1,h2⟩
  ·exact⟨sd (h.flt κ' b h').1 hsz,(h.flt κ' b h').2⟩
  ·exact⟨h2,.inr (qzz h.grow h1)⟩
 immlt b hb:=by
  rcases himm b hb with h'|⟨κ',h'⟩|⟨h1,h2⟩
  ·exact⟨sd (h.immlt b h').1 hsz,(h.immlt b h').2⟩
  ·exact⟨sd (h.flt κ' b h').1 hsz,.inr (h.flt κ' b h').2⟩
  ·exact⟨h2,.inr (.inr (qzz h.grow h1))⟩
 imm0:=Set.le_trans h.imm0 hi
 keep b hb hno:=by
  rw[hk b (sd hb h.grow) (fun⟨κ,hF⟩=>by rcases (h.flt κ b hF).2 with h1|h1;exact hno h1;omega)]
  exact h.keep b hb hno
 grow:=qzz h.grow hsz
 os:=⟨hos.1.trans h.os.1,hos.2.1.trans h.os.2.1,hos.2.2.1.trans h.os.2.2.1,h.os.2.2.2.trans hos.2.2.2⟩
 defers:=h.defers

theorem jf {w:World} {x:Obj} {b:Nat} (h:b<w.heap.size):({ w with heap:=w.heap.push x }:World).heap[b]? =w.heap[b]? :=by
 show(w.heap.push x)[b]? =_
 rw[Array.getElem?_push,if_neg qom]
theorem rl {w:World} {x:Obj}:({ w with heap:=w.heap.push x }:World).heap[w.heap.size]? =some x:=by
 show(w.heap.push x)[w.heap.size]? =_
 simp

theorem rn (h:aD ρ σ a w imm Λ F) (κ:Key):(Λ κ).gen=(lkN σ.heap κ.1 κ.2).gen:=by
 have:=h.nodes κ
 generalize lkN σ.heap κ.1 κ.2=n at this⊢
 cases n <;> simp only[NR] at this <;> simp only[HN.gen,this.1]

/-- a new block, and the node that it becomes: κ's elder node is forgotten; what the new one owns comes out of T -/
theorem aD.newnode (h:aD ρ σ a w imm Λ F) {κ:Key} {n:HN} {i:KI} {c:Array Value} {e:TypeId} {T:Set} (hg:i.gen=(lkN σ.heap κ.1 κ.2).gen+1)
  (hT:∀κ',Set.dis T (F κ')) (hTi:Set.dis T imm) (hTlt:∀b,T b→b<w.heap.size∧(ρ.own0 b∨ρ.w0.heap.size≤b))
  (hN:NR { w with heap:=w.heap.push (.cells c e) } imm (up Λ κ i) i n (fun b=>b=w.heap.size∨T b)) (hRS:RS ρ { w with heap:=w.heap.push (.cells c e) } i n) :
  ∃Λ' F',aD ρ (σ.upd1 (.n κ n)) a { w with heap:=w.heap.push (.cells c e) } imm Λ' F'∧Λ' κ=i:=by
 have hle:bF Λ (up Λ κ i):=by
  intro x
  by_cases ex:x=κ
  ·subst ex;rw[az];have:=rn h x;exact⟨by omega,fun e=>by omega⟩
  ·rw[aN _ _ ex];exact⟨qzi _,fun _=>.inr rfl⟩
 have hnew:∀κ',¬F κ' w.heap.size:=fun κ' hF=>by have:=(h.flt κ' _ hF).1;omega
 refine⟨up Λ κ i,up F κ (fun b=>b=w.heap.size∨T b),?_,az _ _ _⟩
 refine{ h with rs:=lE (by rw[az];exact hRS) fun x hx=>by rw[aN _ _ hx];exact(h.rs x).stable (h.nodes x) (fun b hb=>jf (h.flt x b hb).1) (fun _=>.inr rfl) rfl,slots:=?_,nodes:=?_,dis:=?_,fimm:=?_,flt:=?_,immlt:=?_,keep:=?_,grow:=?_,os:=⟨h.os.1,h.os.2.1,h.os.2.2.1,h.os.2.2.2.trans (aO.same fun b hb=>jf hb)⟩ }
 ·intro t
  exact CR.stable (Set.le_refl _) (fun b hb=>jf (h.immlt b hb).1) (some Λ) (some _) _ _ _ _ hle (Set.le_refl _) (fun _ z=>z.elim) (h.slots t)
 ·intro x
  show NR _ _ _ _ (lkN ((κ,n)::σ.heap) x.1 x.2) _
  rw[aP]
  by_cases ex:x=κ
  ·subst ex;rw[if_pos rfl,az,az];exact hN
  ·rw[if_neg ex,aN _ _ ex,aN _ _ ex]
   exact(h.nodes x).stable (Set.le_refl _) (fun b hb=>jf (h.immlt b hb).1) (fun b hb=>jf (h.flt x b hb).1) hle
 ·intro x y hxy b hx hy
  by_cases ex:x=κ
  ·subst ex
   rw[az] at hx
   rw[aN _ _ (Ne.symm hxy)] at hy
   rcases hx with rfl|hx
   ·exact hnew y hy
   ·exact hT y b hx hy
  ·rw[aN _ _ ex] at hx
   by_cases ey:y=κ
   ·subst ey
    rw[az] at hy
    rcases hy with rfl|hy
    ·exact hnew x hx
    ·exact hT x b hy hx
   ·rw[aN _ _ ey] at hy;exact h.dis x y hxy b hx hy
 ·intro x b hx hb
  by_cases ex:x=κ
  ·subst ex
   rw[az] at hx
   rcases hx with rfl|hx
   ·have:=(h.immlt _ hb).1;omega
   ·exact hTi b hx hb
  ·rw[aN _ _ ex] at hx;exact h.fimm x b hx hb
 ·intro x b hx
  have hsz:({ w with heap:=w.heap.push (.cells c e) }:World).heap.size=w.heap.size+1:=by simp
  rw[hsz]
  by_cases ex:x=κ
  ·subst ex
   rw[az] at hx
   rcases hx with rfl|hx
   ·exact⟨by omega,.inr h.grow⟩
   ·exact⟨by have:=(hTlt b hx).1;omega,(hTlt b hx).2⟩
  ·rw[aN _ _ ex] at hx
   exact⟨by have:=(h.flt x b hx).1;omega,(h.flt x b hx).2⟩
 ·intro b hb
  have hsz:({ w with heap:=w.heap.push (.cells c e) }:World).heap.size=w.heap.size+1:=by simp
  rw[hsz]
  exact⟨by have:=(h.immlt b hb).1;omega,(h.immlt b hb).2⟩
 ·intro b hb hno
  rw[jf (sd hb h.grow)]
  exact h.keep b hb hno
 ·have hsz:({ w with heap:=w.heap.push (.cells c e) }:World).heap.size=w.heap.size+1:=by simp
  rw[hsz];have:=h.grow;omega

theorem CR.one {x:Option Lam} {c:A} {v:Value} {S:Set} (ho:fV c=true) (h:CR w imm x c v S):(∀l,v≠ .agg l)∧(∀l,v≠ .tuple l):=by
 cases x <;> cases c <;> simp only[fV,qzw] at ho <;> simp only[CR] at h
 all_goals first
  |(subst h;cases v <;> simp at ho⊢)
  |(rcases h with⟨_,rfl⟩;exact⟨fun _=>by simp,fun _=>by simp⟩)
  |(rcases h with⟨_,_,rfl,_⟩;exact⟨fun _=>by simp,fun _=>by simp⟩)
  |(rcases h with⟨_,_,_,_,rfl,_⟩;exact⟨fun _=>by simp,fun _=>by simp⟩)
  |(rcases h with⟨_,rfl,_⟩;exact⟨fun _=>by simp,fun _=>by simp⟩)
  |(rcases h with⟨_,_,_,_,_,rfl⟩;exact⟨fun _=>by simp,fun _=>by simp⟩)
  |(rcases h with⟨_,_,_,rfl⟩;exact⟨fun _=>by simp,fun _=>by simp⟩)

theorem af.length {x:Option Lam}:∀{cs:List A} {vs:List Value} {S:Set},af w imm x cs vs S→vs.length=cs.length
 |[],[],_,_=>rfl
 |[],_::_,_,h=>by simp only[af] at h
 |_::_,[],_,h=>by simp only[af] at h
 |c::cs,v::vs,S,h=>by
  simp only[af] at h
  obtain⟨S1,S2,h1,h2,_⟩:=h
  simp[af.length h2]
theorem af.one {x:Option Lam}:∀{cs:List A} {vs:List Value} {S:Set},cs.all fV=true→af w imm x cs vs S→∀v∈vs,(∀l,v≠ .agg l)∧(∀l,v≠ .tuple l)
 |[],[],_,_,_=>by simp
 |[],_::_,_,_,h=>by simp only[af] at h
 |_::_,[],_,_,h=>by simp only[af] at h
 |c::cs,v::vs,S,hp,h=>by
  simp only[qzK,qzf] at hp
  simp only[af] at h
  obtain⟨S1,S2,h1,h2,_⟩:=h
  intro u hu
  rcases qzo.1 hu with rfl|hu
  ·exact h1.one hp.1
  ·exact af.one hp.2 h2 u hu
theorem oZ {x:Option Lam} {y:A} {v:Value} {S:Set} {cells:List A} (hc:cellsOf y=some cells) (h:CR w imm x y v S):∃vs:List Value,v.cells=vs.toArray∧af w imm x cells vs S∧∀u∈vs,(∀l,u≠ .agg l)∧(∀l,u≠ .tuple l):=by
 unfold cellsOf at hc
 split at hc
 ·split at hc
  ·rename_i cs ha
   simp only[qzh] at hc
   subst hc
   simp only[CR] at h
   obtain⟨vs,rfl,hv⟩:=h
   exact⟨vs,rfl,hv,hv.one ha⟩
  ·simp at hc
 ·split at hc
  ·rename_i ho
   simp only[qzh] at hc
   subst hc
   have hone:=h.one ho
   refine⟨[v],?_,by simp only[af];exact⟨S,Set.no,h,trivial,Set.le_refl _,Set.no_le _,fun _ _ z=>z⟩,fun u hu=>by rw[List.mem_singleton.1 hu];exact hone⟩
   cases v <;> first|rfl|exact absurd rfl (hone.1 _)
  ·simp at hc

/-- values laid into a block are its cells -/
theorem ai.of_vals {x:Option Lam} {b:Nat}:∀{cs:List A} {vs:List Value} {p:Nat} {S:Set},af w imm x cs vs S→(∀j,j<vs.length→w.cell? ⟨b,p+j,none⟩=vs[j]?)→ai w imm x cs b p S
 |[],[],_,_,_,_=>by simp only[ai]
 |[],_::_,_,_,h,_=>by simp only[af] at h
 |_::_,[],_,_,h,_=>by simp only[af] at h
 |c::cs,v::vs,p,S,h,hc=>by
  simp only[af] at h
  obtain⟨S1,S2,h1,h2,h3,h4,h5⟩:=h
  simp only[ai]
  refine⟨v,S1,S2,by simpa using hc 0 (by simp),h1,ai.of_vals h2 (fun j hj=>?_),h3,h4,h5⟩
  have:=hc (j+1) (by simpa using hj)
  rw[show p+1+j=p+(j+1) by omega,this];simp

theorem Cd (_hE:EOk P E) (h:aD ρ σ a w imm Λ F) (hd:∀t,o.dst=some t→t<ρ.n) {t:Nat} {cells:List A} {vs:List Value} (hv:af w imm (some Λ) cells vs Set.no)
  (hrun:(execOp a.eval o).run P w= .ok (.value (.pointer (some ⟨w.heap.size,0,none⟩))) { w with heap:=w.heap.push (.cells vs.toArray t) })
  (hh:(pw E t o.dst (some cells)).holds σ K):bG P ρ σ K o a w Q:=by
 unfold pw at hh
 obtain⟨d,hod,hh⟩:=bS hh
 obtain⟨cs,hcs,hh⟩:=bS hh
 simp only[qzh] at hcs
 subst hcs
 split at hh
 ·rename_i hlen
  replace hlen:=hlen.1
  have hk:K [.n (d,0) (.box ((lkN σ.heap d 0).gen+1) cells),.s d (.mptr (d,0) ((lkN σ.heap d 0).gen+1) 0 0)]:=hh
  have hvl:=hv.length
  obtain⟨Λ',F',hr,hΛ⟩:=h.newnode (κ:=(d,0)) (n:=.box ((lkN σ.heap d 0).gen+1) cells) (i:=⟨(lkN σ.heap d 0).gen+1,.at_ w.heap.size 0 vs.length,cells.length,1⟩) (c:=vs.toArray) (e:=t) (T:=Set.no) rfl
   (fun _=>Set.no_dis _) (Set.no_dis _) (fun _ z=>z.elim) (by
    refine⟨rfl,rfl,rfl,w.heap.size,0,vs.length,Set.no,rfl,.inl rfl,id,Set.no_le _,⟨vs.toArray,t,0,0,rl,by simp,qzi _⟩,by omega,?_⟩
    refine ai.of_vals (vs:=vs) ?_ (fun j hj=>?_)
    ·refine af.stable (Set.le_refl _) (fun b hb=>jf (h.immlt b hb).1) (some Λ) (some _) _ _ _ _ ?_ (Set.le_refl _) (fun _ z=>z.elim) hv
     intro x
     by_cases ex:x=(d,0)
     ·subst ex;rw[az];have hg:(Λ (d,0)).gen=(lkN σ.heap d 0).gen:=rn h (d,0);exact⟨by simp only;omega,fun e=>by simp only at e;omega⟩
     ·rw[aN _ _ ex];exact⟨qzi _,fun _=>.inr rfl⟩
    ·rw[cell?_block rl];simp) (fun b0 base0 size0 e0=>by cases e0;exact .inl h.grow)
  refine .inl ?_
  simp only[Oper.wp,hrun,Oper.upon]
  refine⟨_,hk,imm,Λ',F',?_⟩
  have:=hr.put (d:=some d) (x:=.mptr (d,0) ((lkN σ.heap d 0).gen+1) 0 0) (v:=.pointer (some ⟨w.heap.size,0,none⟩)) (fun t ht=>by cases ht;exact hd d hod) (by
   simp only[CR,hΛ,eG]
   exact⟨qzi _,fun _=>by simp,_,rfl⟩)
  rw[hod]
  exact this
 ·exact hh.elim

theorem xh {t:TypeId} {v:Value} {vs:List Value} (hv:v.cells=vs.toArray):(newVar t v).run P w= .ok ⟨w.heap.size,0,none⟩ { w with heap:=w.heap.push (.cells vs.toArray t) }:=by
 simp[newVar,newRow,hv]

theorem CA (hE:EOk P E) (h:aD ρ σ a w imm Λ F) (hd:∀t,o.dst=some t→t<ρ.n) {t:Nat} {x:Operand} (ho:o.op= .box t x)
  (hh:(opd x fun y=>pw E t o.dst (cellsOf y)).holds σ K):bG P ρ σ K o a w Q:=by
 obtain⟨y,hy,hk⟩:=h.opd hh
 cases hc:cellsOf y with
 |none=>
  rw[hc] at hk
  unfold pw at hk
  obtain⟨d,hod,hk⟩:=bS hk
  exact hk.elim
 |some cells=>
  rw[hc] at hk
  obtain⟨vs,e,hv,_⟩:=oZ hc hy
  exact Cd hE h hd hv (by simp only[execOp,ho,Instr.box,Sem.run_bind,xh e,Result.andThen_ok,Sem.run_pure]) hk

theorem sU:∀(vs:List Value),af w imm (some Λ) (vs.map A.lit) vs Set.no
 |[]=>by simp only[pC,af]
 |v::vs=>by simp only[qzG,af];exact⟨Set.no,Set.no,by simp only[CR],sU vs,Set.le_refl _,Set.le_refl _,Set.no_dis _⟩

theorem Cz (hE:EOk P E) (h:aD ρ σ a w imm Λ F) (hd:∀t,o.dst=some t→t<ρ.n) {t:Nat} (ho:o.op= .alloc t)
  (hh:(pw E t o.dst (some (E.info t).zero)).holds σ K):bG P ρ σ K o a w Q:=by
 have hz:(E.info t).size≠0:=by
  unfold pw at hh
  obtain⟨d,hod,hh⟩:=bS hh
  obtain⟨cs,hcs,hh⟩:=bS hh
  split at hh
  ·rename_i hc;exact hc.2
  ·exact hh.elim
 have hT:TOk P t (E.info t):=hE t (.inl hz)
 obtain⟨i,d,z,hi,hsz,_,hd',htd,hz1,hz2,hz3⟩:=hT
 rw[hz2] at hh
 exact Cd hE h hd (sU z.cells.toList) (by
  simp only[execOp,ho,Instr.alloc,Sem.run_bind,rr hi hz1,Result.andThen_ok,xh (v:=z) (vs:=z.cells.toList) (by simp),Sem.run_pure]) hh
end
end Go.Vm
/- Structs that are written out. -/
namespace Go.Vm
section
variable {P:Program} {E:TE} {Fn:FuncId→List A→List A→A→Prop} {LW:Code→(Ex→St→Prop)→St→Prop} {IN:InT} {ρ:Env} {σ:St} {K:List W→Prop} {o:Oper} {a:Act} {w:World} {Q:Exit→Act→World→Prop} {imm:Set} {Λ:Lam} {F:Key→Set}

/-- values laid over others from place o on -/
def gh:Nat→List Value→List Value→List Value
 |_,[],cs=>cs
 |0,v::vs,_::cs=>v::gh 0 vs cs
 |o+1,v::vs,c::cs=>c::gh o (v::vs) cs
 |_,_::_,[]=>[]

theorem mb {x:Option Lam}:∀(p:Nat) (vs cs cs':List A) (us zs:List Value) (S T U:Set),Set.le S U→Set.le T U→Set.dis S T→af w imm x vs us S→af w imm x cs zs T→lay p vs cs=some cs'→af w imm x cs' (gh p us zs) U∧(gh p us zs).length=zs.length∧p+us.length≤zs.length∨us=[]∧af w imm x cs' zs U∧vs=[]
 |_,[],cs,cs',us,zs,S,T,U,hS,hT,hd,hu,hz,h=>by
  cases us with
  |nil=>simp[lay] at h;subst h;exact .inr ⟨rfl,hz.mono hT,rfl⟩
  |cons=>simp only[af] at hu
 |0,v::vs,c::cs,cs',us,zs,S,T,U,hS,hT,hd,hu,hz,h=>by
  cases us with
  |nil=>simp only[af] at hu
  |cons u us=>
   cases zs with
   |nil=>simp only[af] at hz
   |cons z zs=>
    simp only[lay,qzY] at h
    obtain⟨e,he,rfl⟩:=h
    simp only[af] at hu hz
    obtain⟨S1,S2,h1,h2,h3,h4,h5⟩:=hu
    obtain⟨T1,T2,g1,g2,g3,g4,g5⟩:=hz
    left
    rcases mb 0 vs cs e us zs S2 T2 (fun y=>S2 y∨T2 y) (fun y hy=>.inl hy) (fun y hy=>.inr hy) (Set.dis_le hd h4 g4) h2 g2 he with⟨r1,r2,r3⟩|⟨rfl,r2,_⟩
    ·refine⟨?_,by simp[gh,r2],by simp at r3⊢;omega⟩
     simp only[gh,af]
     exact⟨S1,_,h1,r1,Set.le_trans h3 hS,fun y hy=>hy.elim (fun z=>hS y (h4 y z)) (fun z=>hT y (g4 y z)),fun y hy hz=>hz.elim (h5 y hy) (fun z=>hd y (h3 y hy) (g4 y z))⟩
    ·refine⟨?_,by simp[gh],by simp⟩
     simp only[gh,af]
     exact⟨S1,_,h1,r2,Set.le_trans h3 hS,fun y hy=>hy.elim (fun z=>hS y (h4 y z)) (fun z=>hT y (g4 y z)),fun y hy hz=>hz.elim (h5 y hy) (fun z=>hd y (h3 y hy) (g4 y z))⟩
 |p+1,v::vs,c::cs,cs',us,zs,S,T,U,hS,hT,hd,hu,hz,h=>by
  cases us with
  |nil=>simp only[af] at hu
  |cons u us=>
   cases zs with
   |nil=>simp only[af] at hz
   |cons z zs=>
    simp only[lay,qzY] at h
    obtain⟨e,he,rfl⟩:=h
    simp only[af] at hz
    obtain⟨T1,T2,g1,g2,g3,g4,g5⟩:=hz
    left
    rcases mb p (v::vs) cs e (u::us) zs S T2 (fun y=>S y∨T2 y) (fun y hy=>.inl hy) (fun y hy=>.inr hy) (Set.dis_le hd (Set.le_refl _) g4) hu g2 he with⟨r1,r2,r3⟩|⟨r1,_⟩
    ·refine⟨?_,by simp[gh,r2],by simp at r3⊢;omega⟩
     simp only[gh,af]
     exact⟨T1,_,g1,r1,Set.le_trans g3 hT,fun y hy=>hy.elim (hS y) (fun z=>hT y (g4 y z)),fun y hy hz=>hz.elim (fun z=>hd y z (g3 y hy)) (g5 y hy)⟩
    ·exact absurd r1 (by simp)
 |0,_::_,[],cs',_,_,_,_,_,_,_,_,_,_,h=>by simp[lay] at h
 |_+1,_::_,[],cs',_,_,_,_,_,_,_,_,_,_,h=>by simp[lay] at h

theorem uR (p:Nat) (zs:List Value):gh p [] zs=zs:=by cases p <;> cases zs <;> rfl
theorem sQ (u:Value) (us:List Value):∀(p:Nat) (zs:List Value),p<zs.length→gh (p+1) us (zs.set p u)=gh p (u::us) zs
 |0,z::zs,_=>by
  cases us with
  |nil=>simp[gh]
  |cons v us=>simp[gh]
 |p+1,z::zs,h=>by
  have ih:=sQ u us p zs (by simpa using h)
  cases us with
  |nil=>simp only[uR] at ih⊢;simp[gh,←ih]
  |cons v us=>simp only[List.set_cons_succ,gh];rw[ih]
 |_,[],h=>by simp at h
theorem yT:∀(us:List Value) (p j:Nat) (zs:List Value),p+j+us.length≤zs.length→(us.zipIdx j).foldl (fun(cs:Array Value) (cj:Value×Nat)=>cs.setIfInBounds (p+cj.2) cj.1) zs.toArray=(gh (p+j) us zs).toArray
 |[],p,j,zs,_=>by simp[uR]
 |u::us,p,j,zs,h=>by
  simp only[qzm] at h
  simp only[List.zipIdx_cons,ox,List.setIfInBounds_toArray]
  rw[yT us p (j+1) (zs.set (p+j) u) (by simp;omega),←tq,sQ u us (p+j) zs qom]
theorem zg {us:List Value} {p:Nat} {zs:List Value} (h:p+us.length≤zs.length):(us.toArray.zipIdx.foldl (fun(cs:Array Value) (x:Value×Nat)=>match x with|(c,j)=>cs.setIfInBounds (p+j) c) zs.toArray)=(gh p us zs).toArray:=by
 have:=yT us p 0 zs (by simpa using h)
 rw[←Array.foldl_toList]
 simpa using this

theorem B9 {α β:Type} {f:α→Sem β} {g:α→β}:∀(l:List α),(∀x∈l,(f x).run P w= .ok (g x) w)→(l.mapM f).run P w= .ok (l.map g) w
 |[],_=>by simp
 |x::l,h=>by
  simp only[List.mapM_cons,Sem.run_bind,h x (by simp),Result.andThen_ok,B9 l (fun y hy=>h y (by simp[hy])),Sem.run_pure,qzG]
theorem zo {α β:Type} {f:α→Sem β} {g:α→β} (l:Array α) (h:∀x∈l.toList,(f x).run P w= .ok (g x) w):(l.mapM f).run P w= .ok (l.toList.map g).toArray w:=by
 rw[Array.mapM_eq_mapM_toList,Sem.run_map,B9 l.toList h]
 rfl

theorem nz (h:aD ρ σ a w imm Λ F):∀{ps:List (Nat×Operand)} {f:List (Nat×A)→Pg},(tE ps f).holds σ K→
  ∃vs:List (Nat×A),(f vs).holds σ K∧vs.map (·.1)=ps.map (·.1)∧af w imm (some Λ) (vs.map (·.2)) (ps.map fun p=>a.eval p.2) Set.no
 |[],_,hh=>⟨[],hh,rfl,by simp[af]⟩
 |(i,x)::ps,f,hh=>by
  obtain⟨y,hy,h1⟩:=h.opd hh
  obtain⟨vs,h2,h3,h4⟩:=nz h h1
  exact⟨(i,y)::vs,h2,by simp[h3],by simp only[qzG,af];exact⟨Set.no,Set.no,hy,h4,Set.le_refl _,Set.le_refl _,Set.no_dis _⟩⟩

theorem uy (place:Nat→Option (Nat×Nat)):∀(vs:List (Nat×A)) (us:List Value) (cells cells':List A) (zs:List Value),af w imm (some Λ) (vs.map (·.2)) us Set.no→af w imm (some Λ) cells zs Set.no→
  tM place vs cells=some cells'→∃zs':List Value,Instr.fill place zs.toArray ((vs.map (·.1)).zip us)=some zs'.toArray∧af w imm (some Λ) cells' zs' Set.no
 |[],us,cells,cells',zs,hu,hz,h=>by
  simp[tM] at h;subst h
  exact⟨zs,by simp[Instr.fill],hz⟩
 |(i,y)::vs,[],cells,cells',zs,hu,hz,h=>by simp only[qzG,af] at hu
 |(i,y)::vs,u::us,cells,cells',zs,hu,hz,h=>by
  simp only[qzG,af] at hu
  obtain⟨S1,S2,h1,h2,h3,h4,_⟩:=hu
  simp only[tM] at h
  split at h
  ·rename_i off size hp
   simp only[Option.bind_eq_some_iff] at h
   obtain⟨ws,hws,h⟩:=h
   split at h
   ·rename_i hlen0
    obtain⟨hlen,hs0⟩:=hlen0
    simp only[Option.bind_eq_some_iff] at h
    obtain⟨c2,hlay,hrest⟩:=h
    obtain⟨xs,hxs,hv,_⟩:=oZ hws (h1.mono h3)
    have hzl:=hz.length
    have hxl:=hv.length
    have hcell:af w imm (some Λ) c2 (gh off xs zs) Set.no∧off+xs.length≤zs.length∨xs=[]∧af w imm (some Λ) c2 zs Set.no:=by
     rcases mb off ws cells c2 xs zs Set.no Set.no Set.no (Set.le_refl _) (Set.le_refl _) (Set.no_dis _) hv hz hlay with⟨r1,_,r3⟩|⟨r1,r2,_⟩
     ·exact .inl ⟨r1,r3⟩
     ·exact .inr ⟨r1,r2⟩
    simp only[qzG,List.zip_cons_cons,Instr.fill,hp,hxs]
    rcases hcell with⟨r1,r3⟩|⟨rfl,r2⟩
    ·obtain⟨zs',g1,g2⟩:=uy place vs us c2 cells' (gh off xs zs) (h2.mono h4) r1 hrest
     refine⟨zs',?_,g2⟩
     have e1:xs.toArray.size=size:=by simp[hxl,hlen]
     have e2:¬(off+xs.toArray.size>zs.toArray.size):=by simp;omega
     rw[if_neg (by simp[e1];simp at e2;omega)]
     rw[zg r3]
     exact g1
    ·simp at hxl;omega
   ·simp at h
  ·simp at h

theorem CF (hE:EOk P E) (h:aD ρ σ a w imm Λ F) (hd:∀t,o.dst=some t→t<ρ.n) {t:Nat} {ps:Array (Nat×Operand)} (ho:o.op= .build t ps)
  (hh:(xP E o.dst t ps.toList).holds σ K):bG P ρ σ K o a w Q:=by
 unfold xP at hh
 split at hh
 ·rename_i fs ht
  split at hh
  ·exact hh.elim
  rename_i hfs
  obtain⟨vs,hh2,hidx,hv⟩:=nz h hh
  clear hh
  obtain⟨cells,hf,hk⟩:=bS hh2
  clear hh2
  obtain⟨i,d,z,hi,hsz,_,hd',htd,hz1,hz2,hz3⟩:=hE t (.inr (by rw[ht];rfl))
  rw[ht] at htd
  cases d <;> simp only[ez] at htd
  rename_i fields
  have hsize:∀f∈fields.toList,(do pure (f.offset,←sizeOf f.type):Sem (Nat×Nat)).run P w= .ok (f.offset,(E.info f.type).size) w:=by
   intro f hf
   have hz:(E.info f.type).size≠0:=by
    intro h0
    apply hfs
    rw[List.any_eq_true]
    refine⟨(f.offset,f.type),by rw[←htd];exact List.mem_map.2 ⟨f,hf,rfl⟩,by simpa using h0⟩
   obtain⟨i',_,_,hi',hsz',_⟩:=hE f.type (.inl hz)
   simp[eO hi',hsz']
  rw[hz2] at hf
  obtain⟨zs',g1,g2⟩:=uy _ vs _ _ _ _ hv (sU z.cells.toList) hf
  refine aR h hd (v:=.agg zs'.toArray) ?_ (by simp only[CR];exact⟨zs',rfl,g2⟩) hk
  have hparts:(ps.map fun p=>(p.1,a.eval p.2)).toList=(vs.map (·.1)).zip (ps.toList.map fun p=>a.eval p.2):=by
   rw[hidx]
   simp only[Array.toList_map]
   rw[List.zip_map']
  have hplace:∀i:Nat,(fields.toList.map fun f=>(f.offset,(E.info f.type).size)).toArray[i]? =(fs[i]?).map fun(p:Nat×Nat)=>(p.1,(E.info p.2).size):=by
   intro i
   rw[←htd]
   simp only[List.getElem?_toArray,qzC,Option.map_map]
   rfl
  have hg:Instr.fill ((fields.toList.map fun f=>(f.offset,(E.info f.type).size)).toArray[·]?) z.cells (ps.map fun p=>(p.1,a.eval p.2)).toList=some zs'.toArray:=by
   rw[hparts]
   have:((fields.toList.map fun f=>(f.offset,(E.info f.type).size)).toArray[·]?)=fun(i:Nat)=>(fs[i]?).map fun(p:Nat×Nat)=>(p.1,(E.info p.2).size):=funext hplace
   rw[this]
   simpa using g1
  simp only[execOp,ho,Instr.build,Sem.run_bind,rr hi hz1,Result.andThen_ok,run_underlying hd',zo (P:=P) (w:=w) (g:=fun f:Field=>(f.offset,(E.info f.type).size)) fields hsize,hg,Sem.run_pure]
 ·exact hh.elim
end
end Go.Vm
/- What is taken in by an array's cells; stores. -/
namespace Go.Vm

theorem nL (κ:Key):∀l:List Key,kF κ l=true↔κ∈l
 |[]=>by simp[kF]
 |x::l=>by
  obtain⟨a,b⟩:=κ
  obtain⟨c,d⟩:=x
  have ih:=nL (a,b) l
  simp only[kF,qzo,oM]
  by_cases h1:a=c <;> by_cases h2:b=d <;> simp[h1,h2] <;> (try simpa [h1,h2] using ih)

section
variable {P:Program} {E:TE} {Fn:FuncId→List A→List A→A→Prop} {LW:Code→(Ex→St→Prop)→St→Prop} {IN:InT} {ρ:Env} {σ:St} {K:List W→Prop} {o:Oper} {a:Act} {w:World} {Q:Exit→Act→World→Prop} {imm:Set} {Λ:Lam} {F:Key→Set}

/-- writes that only end nodes -/
def ec (Λ:Lam) (ks:List Key) (ws:List W):Prop:=∀τ:St,(∀t,lkS (τ.upd ws).slots t=lkS τ.slots t)∧∀x:Key,lkN (τ.upd ws).heap x.1 x.2=if x∈ks then .dead (Λ x).gen else lkN τ.heap x.1 x.2
theorem ec.nil (Λ:Lam):ec Λ [] []:=fun τ=>⟨fun _=>rfl,fun x=>by simp[St.upd]⟩
theorem ec.cons {Λ:Lam} {ks:List Key} {ws:List W} (h:ec Λ ks ws) (κ:Key):ec Λ (κ::ks) (.n κ (.dead (Λ κ).gen)::ws):=fun τ=>by
 obtain⟨h1,h2⟩:=h (τ.upd1 (.n κ (.dead (Λ κ).gen)))
 refine⟨fun t=>by rw[St.upd,h1];rfl,fun x=>?_⟩
 rw[St.upd,h2]
 by_cases hx:x∈ks
 ·rw[if_pos hx,if_pos (qzv _ hx)]
 ·rw[if_neg hx]
  show lkN ((κ,_)::τ.heap) x.1 x.2=_
  rw[aP]
  by_cases e:x=κ
  ·subst e;simp
  ·rw[if_neg e,if_neg (by simp[e,hx])]
theorem ec.append {Λ:Lam} {ks ks':List Key} {ws ws':List W} (h:ec Λ ks ws) (h':ec Λ ks' ws'):ec Λ (ks++ks') (ws++ws'):=fun τ=>by
 obtain⟨h1,h2⟩:=h τ
 obtain⟨g1,g2⟩:=h' (τ.upd ws)
 rw[bo]
 refine⟨fun t=>(g1 t).trans (h1 t),fun x=>?_⟩
 rw[g2,h2]
 by_cases hx:x∈ks' <;> by_cases hy:x∈ks <;> simp[hx,hy]

def cS (Λ:Lam) (ks:List Key):Lam:=fun x=>if x∈ks then{ Λ x with loc:=.gone } else Λ x
def ee (F:Key→Set) (ks:List Key):Key→Set:=fun x=>if x∈ks then Set.no else F x
theorem lc (Λ:Lam) (ks:List Key):bF Λ (cS Λ ks):=fun x=>by
 unfold cS
 split
 ·exact⟨qzi _,fun _=>.inl rfl⟩
 ·exact⟨qzi _,fun _=>.inr rfl⟩
theorem fp (F:Key→Set) (ks:List Key) (x:Key):Set.le (ee F ks x) (F x):=by
 unfold ee
 split
 ·exact Set.no_le _
 ·exact Set.le_refl _
theorem aD.kills (h:aD ρ σ a w imm Λ F) {ks:List Key} {ws:List W} (hk:ec Λ ks ws):aD ρ (σ.upd ws) a w imm (cS Λ ks) (ee F ks):=by
 obtain⟨h1,h2⟩:=hk σ
 refine h.ghost h1 (lc Λ ks) ?_ (fun κ κ' hne=>Set.dis_le (h.dis κ κ' hne) (fp F ks κ) (fp F ks κ')) (fun κ b hb=>⟨κ,fp F ks κ b hb⟩) (fun x=>by
  rw[h2 x]
  by_cases hx:x∈ks
  ·rw[if_pos hx];trivial
  ·rw[if_neg hx,show cS Λ ks x=Λ x by simp[cS,hx]];exact h.rs x)
 intro x
 rw[h2 x]
 by_cases hx:x∈ks
 ·rw[if_pos hx]
  simp only[cS,if_pos hx]
  exact⟨rfl,rfl⟩
 ·rw[if_neg hx]
  have e1:ee F ks x=F x:=by simp[ee,hx]
  have e2:cS Λ ks x=Λ x:=by simp[cS,hx]
  rw[e1,e2]
  exact(h.nodes x).le (lc Λ ks)

/-- a whole row of the frame's own, as data -/
theorem wC {κ:Key} {g k n:Nat} {rows:Rows} {v:Value} {S:Set} (hN:NR w imm Λ (Λ κ) (.arr g k rows) S) (hv:eB (Λ κ) g 0 n v) (hn:n=rows.length):CR w imm none (.inl k rows) v S:=by
 obtain⟨h1,h2,h3,h4⟩:=hN
 have h5:=hv.2.1 h1.symm
 simp only[CR]
 rcases h4 with⟨e,rfl⟩|⟨b,base,size,S',e,g1,g2,g3,g4,g5,g6⟩
 ·rw[e] at h5
  obtain⟨_,rfl,rfl⟩:=h5
  exact⟨none,0,rfl,.inl ⟨rfl,rfl,rfl⟩⟩
 ·rw[e] at h5
  obtain⟨p,cap,rfl,i1,i2,i3,i4⟩:=h5
  refine⟨_,cap,by rw[hn],.inr ⟨b,p,size,S',rfl,g1,g2,g3,g4,?_,i3,by omega,?_⟩⟩
  ·rcases i4 with rfl|⟨_,i4⟩
   ·simpa using i3
   ·rw[←h2];exact i4
  ·rcases i4 with rfl|⟨rfl,_⟩
   ·have:rows=[]:=qzA qom
    subst this;simp[aq]
   ·simpa using g6
theorem Ch {κ:Key} {g k n:Nat} {rows:Rows} {v:Value} {S:Set} (hN:NR w imm Λ (Λ κ) (.farr g k rows) S) (hv:eB (Λ κ) g 0 n v) (hn:n=rows.length):CR w imm none (.tree rows) v Set.no:=by
 obtain⟨h1,h2,h3,h4⟩:=hN
 have h5:=hv.2.1 h1.symm
 simp only[CR]
 rcases h4 with⟨e,rfl⟩|⟨b,base,size,e,g5,g6⟩
 ·rw[e] at h5
  obtain⟨_,rfl,rfl⟩:=h5
  exact⟨none,0,rfl,qzi _,.inl rfl⟩
 ·rw[e] at h5
  obtain⟨p,cap,rfl,i1,i2,i3,i4⟩:=h5
  refine⟨_,cap,by rw[hn],by omega,?_⟩
  rcases i4 with rfl|⟨rfl,_⟩
  ·left;exact qzA qom
  ·right;exact⟨b,_,k,rfl,g5,by simpa using g6⟩

theorem ka (h:aD ρ σ a w imm Λ F):∀(cs:List A) (tk:List Key) (vs:List Value) (f:List Key→List W→List A→Pg),af w imm (some Λ) cs vs Set.no→(cV (au Fn LW IN) tk cs f).holds σ K→
  ∃ks ws cs' T,(f (ks.reverse++tk) ws cs').holds σ K∧af w imm none cs' vs T∧ec Λ ks ws∧(∀x∈ks,x∉tk)∧ks.Nodup∧(∀b,T b→∃x∈ks,F x b)
 |[],tk,vs,f,hv,hh=>by
  cases vs with
  |nil=>exact⟨[],[],[],Set.no,hh,by simp only[af],ec.nil Λ,by simp,by simp,fun _ z=>z.elim⟩
  |cons=>simp only[af] at hv
 |c::cs,tk,[],f,hv,hh=>by simp only[af] at hv
 |c::cs,tk,v::vs,f,hv,hh=>by
  simp only[af] at hv
  obtain⟨S1,S2,hc,hv,hS1,hS2,_⟩:=hv
  replace hv:=hv.mono hS2
  replace hc:=hc.mono hS1
  -- a cell that stays as it is
  have keep:∀{c':A},(cV (au Fn LW IN) tk cs fun tk ws cs'=>f tk ws (c'::cs')).holds σ K→CR w imm none c' v Set.no→
    ∃ks ws cs' T,(f (ks.reverse++tk) ws cs').holds σ K∧af w imm none cs' (v::vs) T∧ec Λ ks ws∧(∀x∈ks,x∉tk)∧ks.Nodup∧(∀b,T b→∃x∈ks,F x b):=by
   intro c' hh hc'
   obtain⟨ks,ws,cs',T,r1,r2,r3,r4,r5,r6⟩:=ka h cs tk vs _ hv hh
   exact⟨ks,ws,c'::cs',T,r1,by simp only[af];exact⟨Set.no,T,hc',r2,Set.no_le _,Set.le_refl _,Set.no_dis _⟩,r3,r4,r5,r6⟩
  cases c with
  |ref κ g i n=>
   simp only[cV] at hh
   split at hh
   ·exact hh.elim
   ·rename_i hnot
    have hnot':κ∉tk:=fun hm=>hnot ((nL κ tk).2 hm)
    replace hh:=h.node hh
    obtain⟨nd,hnd,hN,hh⟩:=hh
    simp only[CR] at hc
    cases nd <;> simp only[Pg.holds] at hh <;> (try exact hh.elim)
    ·rename_i g' k rows
     split at hh
     ·rename_i hg
      obtain⟨rfl,rfl⟩:=hg
      obtain⟨hn,hh⟩:=hh
      have hdata:=wC hN hc hn
      obtain⟨ks,ws,cs',T,r1,r2,r3,r4,r5,r6⟩:=ka h cs (κ::tk) vs _ hv hh
      refine⟨κ::ks,_,.inl k rows::cs',fun b=>F κ b∨T b,?_,?_,r3.cons κ,?_,?_,?_⟩
      rotate_left
      ·simp only[af]
       refine⟨F κ,T,hdata,r2,fun y hy=>.inl hy,fun y hy=>.inr hy,fun y hy hz=>?_⟩
       obtain⟨x,hx,hF⟩:=r6 y hz
       exact h.dis κ x (fun e=>r4 x hx (by rw[e];simp)) y hy hF
      ·intro x hx
       rcases qzo.1 hx with rfl|hx
       ·exact hnot'
       ·exact fun hm=>r4 x hx (qzv _ hm)
      ·exact List.nodup_cons.2 ⟨fun hm=>r4 κ hm (by simp),r5⟩
      ·rintro b (hb|hb)
       ·exact⟨κ,by simp,hb⟩
       ·obtain⟨x,hx,hF⟩:=r6 b hb;exact⟨x,qzv _ hx,hF⟩
      ·have e:(κ::ks).reverse++tk=ks.reverse++(κ::tk):=by simp
       rw[e,hN.1];exact r1
     ·exact hh.elim
    ·rename_i g' k rows
     split at hh
     ·rename_i hg
      obtain⟨rfl,rfl⟩:=hg
      obtain⟨hn,hh⟩:=hh
      exact keep hh (Ch hN hc hn)
     ·exact hh.elim
  |lit u=>
   simp only[cV] at hh
   have:=bM hc
   subst this
   unfold wi at hh
   split at hh
   ·obtain⟨o,hh⟩:=hh
    refine keep hh ?_
    cases o with
    |none=>simp only[xY,CR];exact⟨none,0,by simp,qzi _,.inl trivial⟩
    |some k=>simp only[xY,CR];exact⟨none,0,by simp,.inl ⟨rfl,rfl,trivial⟩⟩
   ·refine keep hh ?_
    simp only[CR]
  |tree r=>simp only[cV] at hh;exact keep hh (by simp only[CR] at hc⊢;exact hc)
  |emp=>
   simp only[cV] at hh
   refine keep hh ?_
   simp only[CR] at hc⊢
   obtain⟨ad,e⟩:=hc
   exact⟨ad,0,e,qzi _,.inl trivial⟩
  |inl|obox|optr|mptr|iptr|agg|tup|clo|hole=>simp only[cV] at hh;exact hh.elim

theorem GG (us:List Value):∀(p:Nat) (zs:List Value),p+us.length≤zs.length→∀j,(gh p us zs)[j]? =if p≤j∧j<p+us.length then us[j-p]? else zs[j]? :=by
 induction us with
 |nil=>intro p zs _ j;rw[uR,if_neg (by simp)]
 |cons u us ih=>
  intro p zs h j
  simp only[qzm] at h⊢
  rw[←sQ u us p zs qom,ih (p+1) (zs.set p u) (by simp;omega) j,List.getElem?_set]
  by_cases h1:j=p
  ·subst h1;rw[if_neg qom,if_pos rfl,if_pos qom,if_pos qom];simp
  ·by_cases h2:p+1≤j∧j<p+1+us.length
   ·rw[if_pos h2,if_pos qom]
    obtain⟨q,rfl⟩:∃q,j=p+1+q:=⟨j-(p+1),by omega⟩
    rw[show p+1+q-(p+1)=q by omega,show p+1+q-p=q+1 by omega];simp
   ·rw[if_neg h2,if_neg (fun e=>h1 e.symm),if_neg qom]

/-- cells over which values are laid -/
theorem ai.lay {x:Option Lam} {b p off size:Nat} {cells cells' vs:List A} {us:List Value} {S T U:Set} (hown:Own w b size) (hfit:p+cells.length≤size) (hb:¬imm b) (hS:¬S b) (hT:¬T b) (hc:ai w imm x cells b p S)
  (hu:af w imm x vs us T) (hl:lay off vs cells=some cells') (hne:vs≠[]) (hSU:Set.le S U) (hTU:Set.le T U) (hd:Set.dis T S) :
  ai (setRow w b (p+off) us) imm x cells' b p U∧cells'.length=cells.length∧off+vs.length≤cells.length:=by
 obtain⟨zs,hzl,hzc,hzv⟩:=hc.vals
 have hul:=hu.length
 rcases mb off vs cells cells' us zs T S U hTU hSU hd hu hzv hl with⟨r1,r2,r3⟩|⟨_,_,r⟩
 ·have hl':=r1.length
  refine⟨?_,by omega,by omega⟩
  have heap:∀y,y≠b→(setRow w b (p+off) us).heap[y]? =w.heap[y]? :=fun y hy=>setRow_heap b us w (p+off) y hy
  have hcore:∀V:Set,af w imm x cells' (gh off us zs) V→¬V b→ai (setRow w b (p+off) us) imm x cells' b p V:=by
   intro V hV hVb
   refine ai.of_vals (af.stable (Set.le_refl _) (fun y hy=>heap y (fun e=>hb (e▸hy))) x x _ _ _ _ (bF?.refl x) (Set.le_refl _) (fun y hy=>heap y (fun e=>hVb (e▸hy))) hV) (fun j hj=>?_)
   rw[fv us hown (p+off) (p+j) qom,GG us off zs r3 j]
   by_cases h1:off≤j∧j<off+us.length
   ·rw[if_pos qom,if_pos h1,show p+j-(p+off)=j-off by omega]
   ·rw[if_neg qom,if_neg h1,hzc j qom]
  -- what is owned lies in S and T, so not in b
  have hV:af w imm x cells' (gh off us zs) (fun y=>S y∨T y):=by
   rcases mb off vs cells cells' us zs T S (fun y=>S y∨T y) (fun y hy=>.inr hy) (fun y hy=>.inl hy) hd hu hzv hl with⟨q1,_,_⟩|⟨_,_,r⟩
   ·exact q1
   ·exact absurd r hne
  exact(hcore _ hV (fun h=>h.elim hS hT)).mono (fun y hy=>hy.elim (hSU y) (hTU y))
 ·exact absurd r hne

theorem oq (hE:EOk P E) {t b p size:Nat} {v:Value} {us:List Value} (hv:v.cells=us.toArray) (h1:∀u∈us,(∀l,u≠ .agg l)∧(∀l,u≠ .tuple l)) (hlen:us.length=(E.info t).size) (hne:us≠[]) (hown:Own w b size) (hfit:p+us.length≤size) :
  (Instr.storeAt t (.pointer (some ⟨b,p,none⟩)) v).run P w= .ok () (setRow w b p us):=by
 have hz:(E.info t).size≠0:=by rw[←hlen];intro h;exact hne (qzA h)
 obtain⟨i,d,z,hi,hsz,_⟩:=hE t (.inl hz)
 have hs:¬(v.cells.size≠i.size):=by rw[hv,hsz,←hlen];simp
 simp only[Instr.storeAt,Instr.sureAddr,Sem.run_bind,Sem.run_pure,Result.andThen_ok,storeVar,eO hi,if_neg hs]
 have:=me (P:=P) p us 0 hown qom h1
 rw[hv]
 simpa using this

/-- a store into the block of one node: all other nodes stand -/
theorem aD.write (h:aD ρ σ a w imm Λ F) {κ:Key} {b p:Nat} {us:List Value} (hFb:F κ b) {σ':St} {ks:List Key} (hs:∀t,lkS σ'.slots t=lkS σ.slots t)
  {n:HN} (hσ:∀x:Key,lkN σ'.heap x.1 x.2=if x=κ then n else if x∈ks then .dead (Λ x).gen else lkN σ.heap x.1 x.2) (hκ:κ∉ks) {T:Set} (hT:∀y,T y→∃x∈ks,F x y)
  (hn:NR (setRow w b p us) imm (cS Λ ks) (Λ κ) n (fun y=>F κ y∨T y)) (hRS:RS ρ (setRow w b p us) (Λ κ) n) :
  aD ρ σ' a (setRow w b p us) imm (cS Λ ks) (up (ee F ks) κ (fun y=>F κ y∨T y)):=by
 have hb:¬imm b:=h.fimm κ b hFb
 have heap:∀y,y≠b→(setRow w b p us).heap[y]? =w.heap[y]? :=fun y hy=>setRow_heap b us w p y hy
 have hsz:=setRow_size b us w p
 have old:∀x,x≠κ→up (ee F ks) κ (fun y=>F κ y∨T y) x=ee F ks x:=fun x hx=>aN _ _ hx
 refine h.step hs (Set.le_refl _) (fun y hy=>heap y (fun e=>hb (e▸hy))) qom ?_ (lc Λ ks) ?_ ?_ ?_ ?_ (fun y hy=>.inl hy) ⟨(setRow_os b us w p).1,(setRow_os b us w p).2.1,(setRow_os b us w p).2.2,aO.setRow b us w p⟩ (fun x=>by
  rw[hσ x]
  by_cases e:x=κ
  ·subst e
   rw[if_pos rfl,show cS Λ ks x=Λ x by simp[cS,hκ]]
   exact hRS
  ·rw[if_neg e]
   by_cases hx:x∈ks
   ·rw[if_pos hx];trivial
   ·rw[if_neg hx,show cS Λ ks x=Λ x by simp[cS,hx]]
    exact(h.rs x).stable (h.nodes x) (fun y hy=>heap y (fun e'=>h.dis x κ e y hy (e'▸hFb))) (fun _=>.inr rfl) rfl)
 ·intro y hy hno
  exact heap y (fun e=>hno ⟨κ,e▸hFb⟩)
 ·intro x
  rw[hσ x]
  by_cases e:x=κ
  ·subst e
   rw[if_pos rfl,az,show cS Λ ks x=Λ x by simp[cS,hκ]]
   exact hn
  ·rw[if_neg e,old x e]
   by_cases hx:x∈ks
   ·rw[if_pos hx]
    simp only[cS,if_pos hx]
    exact⟨rfl,rfl⟩
   ·rw[if_neg hx,show cS Λ ks x=Λ x by simp[cS,hx],show ee F ks x=F x by simp[ee,hx]]
    exact(h.nodes x).stable (Set.le_refl _) (fun y hy=>heap y (fun e=>hb (e▸hy))) (fun y hy=>heap y (fun e'=>h.dis x κ e y hy (e'▸hFb))) (lc Λ ks)
 ·intro x y hxy z hz hw
  have one:∀u v,u=κ→v≠κ→(up (ee F ks) κ (fun y=>F κ y∨T y)) u z→(up (ee F ks) κ (fun y=>F κ y∨T y)) v z→False:=by
   rintro u v rfl hv hu hv'
   rw[az] at hu
   rw[old v hv] at hv'
   rcases hu with hu|hu
   ·exact h.dis u v (Ne.symm hv) z hu (fp F ks v z hv')
   ·obtain⟨q,hq,hF⟩:=hT z hu
    unfold ee at hv'
    split at hv'
    ·exact hv'
    ·rename_i hvk
     exact h.dis q v (fun e=>hvk (e▸hq)) z hF hv'
  by_cases e:x=κ
  ·exact one x y e (fun e'=>hxy (e.trans e'.symm)) hz hw
  ·by_cases e':y=κ
   ·exact one y x e' e hw hz
   ·rw[old x e] at hz
    rw[old y e'] at hw
    exact h.dis x y hxy z (fp F ks x z hz) (fp F ks y z hw)
 ·intro x z hz
  by_cases e:x=κ
  ·subst e
   rw[az] at hz
   rcases hz with hz|hz
   ·exact h.fimm x z hz
   ·obtain⟨q,_,hF⟩:=hT z hz;exact h.fimm q z hF
  ·rw[old x e] at hz;exact h.fimm x z (fp F ks x z hz)
 ·intro x z hz
  left
  by_cases e:x=κ
  ·subst e
   rw[az] at hz
   rcases hz with hz|hz
   ·exact⟨x,hz⟩
   ·obtain⟨q,_,hF⟩:=hT z hz;exact⟨q,hF⟩
  ·rw[old x e] at hz;exact⟨x,fp F ks x z hz⟩
end
end Go.Vm
