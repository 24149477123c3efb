/- The row of FnEngTwice, out of the statement about data. -/
import Derived.Test.YtlbnmldopjadoaaGreatC16
import Derived.Test.YtlbnmldopjadoaaGreatRows
import Derived.WalkKit
import Derived.ProofKit
import Derived.OpenShut
import Derived.ShutString
import Derived.ChangeOld
import Derived.Below
import Derived.SizedLaws
namespace Go.Proofs.YtlbnmldopjadoaaGreat.fnEngTwice
open Go Go.Vm Go.ChangeShapes Go.WideShapes Go.ChangeAt Go.RowKit
set_option linter.unusedVariables false
theorem sh_5 {n:Nat} {cs:List A} (h:Sh E n 5 cs):∃x:Int,cs=[.lit (.int .u8 x)]∧(Lit.int .u8 x).wf=true:=by
  cases n with
  |zero=>exact h.elim
  |succ n=>
  simp only[Sh,show(E.info 5).td= .int .u8 from rfl] at h
  exact h
theorem sh_22 {n:Nat} {cs:List A} (h:Sh E n 22 cs):∃x:List Int,cs=[.tree (nI x)]∧(x.length * 1≤reachBytes∧∀y∈x,(Lit.int .u8 y).wf=true):=by
  cases n with
  |zero=>exact h.elim
  |succ n=>
  simp only[Sh,show(E.info 22).td= .slice 5 from rfl] at h
  obtain⟨rows,rfl,h1,h2⟩:=h
  obtain⟨l,e,hl⟩:=BK (c:=c_Iu8) (W:=fun y=>(Lit.int .u8 y).wf=true) (fun r hr=>by obtain⟨x,e,w⟩:=sh_5 (h2 r hr);exact⟨x,e,w⟩)
  refine⟨l,by rw[e];rfl,?_,hl⟩
  rw[e,List.length_map] at h1
  exact h1
/-- the one statement about data alone -/
def IS:Prop:=∀(p0:List Int),(p0.length * 1≤reachBytes∧∀y∈p0,(Lit.int .u8 y).wf=true)→∃k,bG.f k p0=some true
theorem own:ownKnob Tryz.prog.godebug=none:=by kernel_rfl
theorem HS:laidOutB Tryz.prog=true:=by kernel_rfl
theorem supp:Hd E [22,5]=true:=by kernel_rfl
set_option maxRecDepth 100000 in
theorem lifted (pure:IS) (os:Os) (started:os.Started) (H:Type) (enc:TypeId×Value→H) :
    ReturnsInHanded {} Tryz.checked os 10 .any (Rows.fnEngTwiceSpec.pre6 enc Tryz.prog Tryz.f10 Rows.fnEngTwiceRow.domain false) (Rows.fnEngTwiceSpec.post enc Tryz.prog Tryz.f10 false true false false):=by
  refine returnsInHanded_of_change_sized (C:=Tryz.checked) own started (by kernel_rfl) Tryz.func10
    (ChangeSpec.witness6 (enc:=enc) (C:=Tryz.checked) false ⟨#[],#[.slice none 0 0],[]⟩ 8 (by kernel_rfl) (by kernel_rfl) (by kernel_rfl) (by kernel_rfl)) ?_
  intro W base args ds gs before hval0 hW hcnd hsz0 _
  have hsz:(DataW.weightsEach Tryz.prog (Tryz.f10.params.toList++Rows.fnEngTwiceSpec.plain.varTypes Tryz.prog) (ds++gs)).all (·≤reachBytes)=true:=hsz0
  have hval:∀(j:Nat) t v,Tryz.f10.params[j]? =some t→args[j]? =some v→Value.okWide Tryz.prog W .any base t v:=hval0
  have hW':=hW
  obtain⟨p,q,hA0,hV,rfl,hfz,hnd⟩:=hW
  have hA:DataW.TrodAll enc Tryz.prog W 0 (fun _=>true) true Tryz.f10.params.toList args.toList ds p:=hA0
  rw[Tryz.params10] at hA hval
  have hargs:=hA
  obtain⟨v0,vs0,d0,ds0,p0,q0,hargs,rfl,rfl,h0,r0⟩:=trodAll_cons hA
  obtain⟨rfl,rfl,rfl⟩:=trodAll_nil r0
  obtain rfl:args= #[v0]:=by cases args;simp_all
  obtain⟨rfl,rfl⟩:=trodVars_none hV
  have lt0:∀x∈p0,x.block<W.heap.size:=by obtain⟨m,hm⟩:=h0;exact DataW.trod_lt m _ _ _ hm
  obtain⟨b0,len0,cap0,rfl⟩:=okWide_slice Tryz.underlying22 (hval 0 22 v0 rfl rfl)
  have hw0:∀n∈d0.weights Tryz.prog 22,n≤reachBytes:=fun n hn=>by
    have:=List.all_eq_true.1 hsz n (DataW.weights_mem_each (j:=0) (t:=22) (d:=d0) rfl rfl n hn)
    simpa using this
  obtain⟨x0,e0,w0⟩:∃x:List Int,CR W (fun b=>b<W.heap.size) none (tA (nI x)) (.slice b0 len0 cap0) Set.no∧(x.length * 1≤reachBytes∧∀y∈x,(Lit.int .u8 y).wf=true):=by
    obtain⟨m,hm⟩:=h0
    obtain⟨cs2,s1,s2⟩:=xJ eok supp m 22 _ _ (by decide) hm hw0
    obtain⟨x,rfl,hx⟩:=sh_22 s1
    obtain⟨c,e,hc⟩:=af.single s2
    cases e
    exact⟨x,hc,hx⟩
  obtain⟨k,hp⟩:=pure x0 w0
  have hvals:af W (fun b=>b<W.heap.size) none [tA (nI x0)] [.slice b0 len0 cap0] Set.no:=by
    simp only[af]
    exact⟨Set.no,Set.no,e0,True.intro,Set.le_refl _,Set.le_refl _,Set.no_dis _⟩
  refine Calls.mono' ((ud .mk hp).2 W (fun b=>b<W.heap.size) Set.no _ hvals (Set.no_dis _) (fun _ h=>h) (fun _ z=>z.elim)) ?_
  intro e W' hq
  cases e with
  |panicked _=>exact hq.elim
  |outgrown=>exact hq.elim
  |returned v=>
  obtain⟨imm',T1,T2,_,_,hr,_,_,_,_,_,hkeep,hgrow,hos,hout,htape,_⟩:=hq
  have hv:v= .bool true:=by simpa only[CR] using hr
  subst hv
  have bel:RowKit.Below W.heap.size W W':=⟨hos,htape,hout,hgrow,fun b hb=>hkeep b hb (fun z=>z)⟩
  exact⟨_,rfl,_,_,_,[],_,[],hW',trodAll_mk1 (shut_bool Tryz.underlying4 _),(trodAll_cons_mk (Below.trod HS (by kernel_rfl) (of_decide_eq_true (by kernel_rfl)) h0 bel lt0) trodAll_mk0),rfl,bel.frame _,fun h=>by cases h⟩
theorem eR {a b:Bool} (h:a=true) (g:b=true):(a&&b)=true:=by rw[h,g];rfl
theorem fact0:(Rows.fnEngTwiceRow.wf (OpenSpec.ofChange Rows.fnEngTwiceSpec))=true:=by kernel_rfl
theorem fact1:(laidOutB Tryz.prog)=true:=by kernel_rfl
theorem fact2:(mapsRowed Tryz.prog)=true:=by kernel_rfl
theorem fact3:(Tryz.f10.params.all (Tryz.prog.readableRec ·))=true:=by kernel_rfl
theorem fact4:(namedTie Tryz.prog Rows.fnEngTwiceRow.named Rows.fnEngTwiceSpec.vars)=true:=by kernel_rfl
theorem fact5:((Rows.fnEngTwiceRow.stops==[]))=true:=by kernel_rfl
theorem fact6:((Tryz.prog.stops==[]))=true:=by kernel_rfl
theorem fact7:((Rows.fnEngTwiceRow.knobs==[]))=true:=by kernel_rfl
theorem fact8:((Tryz.prog.stopKnobs==[]))=true:=by kernel_rfl
theorem fact9:((Rows.fnEngTwiceRow.inPlace==Tryz.prog.inPlace (10:FuncId)))=true:=by kernel_rfl
theorem Id:((Rows.fnEngTwiceRow.unfollowed==Tryz.prog.unfollowed (10:FuncId)))=true:=by kernel_rfl
theorem I8:((Rows.fnEngTwiceRow.recurses==Tryz.prog.recurses (10:FuncId)))=true:=by kernel_rfl
theorem IP:((Rows.fnEngTwiceRow.named==Tryz.prog.varsNamed (10:FuncId)))=true:=by kernel_rfl
theorem IF:((Rows.fnEngTwiceRow.maps==(Tryz.f10.params.toList++Rows.fnEngTwiceSpec.plain.varTypes Tryz.prog).any (Tryz.prog.mapsRec ·)))=true:=by kernel_rfl
theorem IB:((Rows.fnEngTwiceRow.ifaces==(Tryz.f10.params.toList++Rows.fnEngTwiceSpec.plain.varTypes Tryz.prog).any (Tryz.prog.ifacesRec ·)))=true:=by kernel_rfl
theorem IY:((Rows.fnEngTwiceRow.mapsOut==Tryz.prog.mapsAmong Tryz.f10.resultTypes.toList))=true:=by kernel_rfl
theorem Iz:((Rows.fnEngTwiceRow.loops==(Tryz.f10.params.toList++Rows.fnEngTwiceSpec.plain.varTypes Tryz.prog).any (Tryz.prog.loopsFrom ·)))=true:=by kernel_rfl
theorem IZ:((Rows.fnEngTwiceRow.wideKeys==(Tryz.f10.params.toList++Rows.fnEngTwiceSpec.plain.varTypes Tryz.prog++Tryz.f10.resultTypes.toList).any (Tryz.prog.wideKeysFrom ·)))=true:=by kernel_rfl
theorem I5:(Rows.fnEngTwiceSpec.vars.all (Tryz.prog.varReadable ·))=true:=by kernel_rfl
theorem IJ:(Tryz.f10.resultTypes.all (fun t=>Tryz.prog.readableRec t&&decide (t<Tryz.prog.types.size)))=true:=by kernel_rfl
theorem IC:((Rows.fnEngTwiceRow.ifacesOut==Tryz.f10.resultTypes.toList.any (Tryz.prog.ifacesRec ·)))=true:=by kernel_rfl
theorem IM:((Rows.fnEngTwiceRow.loopsOut==Tryz.f10.resultTypes.toList.any (Tryz.prog.loopsFrom ·)))=true:=by kernel_rfl
theorem IU:((Rows.fnEngTwiceRow.plainKeys==Tryz.prog.plainKeys))=true:=by kernel_rfl
theorem IL:(Rows.fnEngTwiceRow.shortTexts.isNone)=true:=by kernel_rfl
theorem IV:(Tryz.prog.stopsHeard)=true:=by kernel_rfl
theorem Ir:(Tryz.prog.mayEnter)=true:=by kernel_rfl
theorem Iw:((Rows.fnEngTwiceRow.lifted==Tryz.prog.liftsFinal))=true:=by kernel_rfl
theorem Iv:((Tryz.prog.make==some Rows.fnEngTwiceRow.make))=true:=by kernel_rfl
theorem IA:((Rows.fnEngTwiceRow.kinds==(if Rows.fnEngTwiceRow.domain.isEmpty then[] else Tryz.f10.params.toList.map fun t=>match Tryz.prog.underlying t with|some (.int k)=>some k|_=>none)))=true:=by kernel_rfl
theorem If:((Rows.fnEngTwiceRow.pinned==Rows.fnEngTwiceRow.pinnedBy))=true:=by kernel_rfl
theorem Iy:((Rows.fnEngTwiceRow.veiled==(Tryz.f10.params.toList++Rows.fnEngTwiceSpec.plain.varTypes Tryz.prog++Tryz.f10.resultTypes.toList).any (Tryz.prog.veiledRec ·)))=true:=by kernel_rfl
theorem IW:(Rows.fnEngTwiceRow.veiledFits Tryz.prog Tryz.f10.params.toList (Tryz.f10.params.toList++Rows.fnEngTwiceSpec.plain.varTypes Tryz.prog++Tryz.f10.resultTypes.toList))=true:=by kernel_rfl
set_option maxRecDepth 100000 in
theorem I3:joinedFacts Tryz.prog 10 Tryz.f10 Rows.fnEngTwiceSpec Rows.fnEngTwiceRow=true:=eR (eR (eR (eR (eR (eR (eR (eR (eR (eR (eR (eR (eR (eR (eR (eR (eR (eR (eR (eR (eR (eR (eR (eR (eR (eR (eR (eR (eR (eR (eR fact0 fact1) fact2) fact3) fact4) fact5) fact6) fact7) fact8) fact9) Id) I8) IP) IF) IB) IY) Iz) IZ) I5) IJ) IC) IM) IU) IL) IV) Ir) Iw) Iv) IA) If) Iy) IW
theorem over (pure:IS):Rows.fnEngTwiceRow.holds Tryz.pinned (OpenSpec.ofChange Rows.fnEngTwiceSpec):=
  OpenClaim.holds_of_wide 10 Tryz.f10 rfl rfl rfl rfl rfl rfl rfl ⟨rfl,rfl,rfl,rfl,rfl⟩ rfl rfl rfl rfl rfl (by kernel_rfl) Tryz.func10 I3
    (of_decide_eq_true (by kernel_rfl)) (by unfold Func.isWrapper;first|(rw[if_pos (by decide +kernel)];kernel_rfl)|(rw[if_neg (by decide +kernel)];exact⟨rfl,rfl⟩))
    (fun os started H enc _=>lifted pure os started H enc)
end Go.Proofs.YtlbnmldopjadoaaGreat.fnEngTwice
