/- The row of FnGraph, out of the statement about data. -/
import Derived.Test.YtlbnmldopjadoaaGreatC8
import Derived.Test.YtlbnmldopjadoaaGreatRows
import Derived.WalkKit
import Derived.ProofKit
import Derived.OpenShut
import Derived.ShutString
import Derived.ChangeOld
import Derived.Below
import Derived.SizedLaws
namespace Go.Proofs.YtlbnmldopjadoaaGreat.fnGraph
open Go Go.Vm Go.ChangeShapes Go.WideShapes Go.ChangeAt Go.RowKit
set_option linter.unusedVariables false
theorem sh_5 {n:Nat} {cs:List A} (h:Sh E n 5 cs):∃x:Int,cs=[.lit (.int .u8 x)]∧(Lit.int .u8 x).wf=true:=by
  cases n with
  |zero=>exact h.elim
  |succ n=>
  simp only[Sh,show(E.info 5).td= .int .u8 from rfl] at h
  exact h
theorem sh_22 {n:Nat} {cs:List A} (h:Sh E n 22 cs):∃x:List Int,cs=[.tree (mG x)]∧(x.length * 1≤reachBytes∧∀y∈x,(Lit.int .u8 y).wf=true):=by
  cases n with
  |zero=>exact h.elim
  |succ n=>
  simp only[Sh,show(E.info 22).td= .slice 5 from rfl] at h
  obtain⟨rows,rfl,h1,h2⟩:=h
  obtain⟨l,e,hl⟩:=yZ (c:=c_Iu8) (W:=fun y=>(Lit.int .u8 y).wf=true) (fun r hr=>by obtain⟨x,e,w⟩:=sh_5 (h2 r hr);exact⟨x,e,w⟩)
  refine⟨l,by rw[e];rfl,?_,hl⟩
  rw[e,List.length_map] at h1
  exact h1
/-- the one statement about data alone -/
def FE:Prop:=∀(p0:List Int),(p0.length * 1≤reachBytes∧∀y∈p0,(Lit.int .u8 y).wf=true)→∃k,iQ.f k p0=some true
theorem own:ownKnob Tryz.prog.godebug=none:=by kernel_rfl
theorem EJ:laidOutB Tryz.prog=true:=by kernel_rfl
theorem supp:Ef E [22,5]=true:=by kernel_rfl
set_option maxRecDepth 100000 in
theorem lifted (pure:FE) (os:Os) (started:os.Started) (H:Type) (enc:TypeId×Value→H) :
    ReturnsInHanded {} Tryz.checked os 7 .any (Rows.fnGraphSpec.pre6 enc Tryz.prog Tryz.f7 Rows.fnGraphRow.domain false) (Rows.fnGraphSpec.post enc Tryz.prog Tryz.f7 false true false false):=by
  refine returnsInHanded_of_change_sized (C:=Tryz.checked) own started (by kernel_rfl) Tryz.func7
    (ChangeSpec.witness6 (enc:=enc) (C:=Tryz.checked) false ⟨#[],#[.slice none 0 0],[]⟩ 8 (by kernel_rfl) (by kernel_rfl) (by kernel_rfl) (by kernel_rfl)) ?_
  intro W base args ds gs before hval0 hW hcnd hsz0 _
  have hsz:(DataW.weightsEach Tryz.prog (Tryz.f7.params.toList++Rows.fnGraphSpec.plain.varTypes Tryz.prog) (ds++gs)).all (·≤reachBytes)=true:=hsz0
  have hval:∀(j:Nat) t v,Tryz.f7.params[j]? =some t→args[j]? =some v→Value.okWide Tryz.prog W .any base t v:=hval0
  have hW':=hW
  obtain⟨p,q,hA0,hV,rfl,hfz,hnd⟩:=hW
  have hA:DataW.TrodAll enc Tryz.prog W 0 (fun _=>true) true Tryz.f7.params.toList args.toList ds p:=hA0
  rw[Tryz.params7] at hA hval
  have hargs:=hA
  obtain⟨v0,vs0,d0,ds0,p0,q0,hargs,rfl,rfl,h0,r0⟩:=trodAll_cons hA
  obtain⟨rfl,rfl,rfl⟩:=trodAll_nil r0
  obtain rfl:args= #[v0]:=by cases args;simp_all
  obtain⟨rfl,rfl⟩:=trodVars_none hV
  have lt0:∀x∈p0,x.block<W.heap.size:=by obtain⟨m,hm⟩:=h0;exact DataW.trod_lt m _ _ _ hm
  obtain⟨b0,len0,cap0,rfl⟩:=okWide_slice Tryz.underlying22 (hval 0 22 v0 rfl rfl)
  have hw0:∀n∈d0.weights Tryz.prog 22,n≤reachBytes:=fun n hn=>by
    have:=List.all_eq_true.1 hsz n (DataW.weights_mem_each (j:=0) (t:=22) (d:=d0) rfl rfl n hn)
    simpa using this
  obtain⟨x0,e0,w0⟩:∃x:List Int,CR W (fun b=>b<W.heap.size) none (tA (mG x)) (.slice b0 len0 cap0) Set.no∧(x.length * 1≤reachBytes∧∀y∈x,(Lit.int .u8 y).wf=true):=by
    obtain⟨m,hm⟩:=h0
    obtain⟨cs2,s1,s2⟩:=vr eok supp m 22 _ _ (by decide) hm hw0
    obtain⟨x,rfl,hx⟩:=sh_22 s1
    obtain⟨c,e,hc⟩:=ah.single s2
    cases e
    exact⟨x,hc,hx⟩
  obtain⟨k,hp⟩:=pure x0 w0
  have hvals:ah W (fun b=>b<W.heap.size) none [tA (mG x0)] [.slice b0 len0 cap0] Set.no:=by
    simp only[ah]
    exact⟨Set.no,Set.no,e0,True.intro,Set.le_refl _,Set.le_refl _,Set.no_dis _⟩
  refine Calls.mono' ((ve .mk hp).2 W (fun b=>b<W.heap.size) Set.no _ hvals (Set.no_dis _) (fun _ h=>h) (fun _ z=>z.elim)) ?_
  intro e W' hq
  cases e with
  |panicked _=>exact hq.elim
  |outgrown=>exact hq.elim
  |returned v=>
  obtain⟨imm',T1,T2,_,_,hr,_,_,_,_,_,hkeep,hgrow,hos,hout,htape,_⟩:=hq
  have hv:v= .bool true:=by simpa only[CR] using hr
  subst hv
  have bel:RowKit.Below W.heap.size W W':=⟨hos,htape,hout,hgrow,fun b hb=>hkeep b hb (fun z=>z)⟩
  exact⟨_,rfl,_,_,_,[],_,[],hW',trodAll_mk1 (shut_bool Tryz.underlying4 _),(trodAll_cons_mk (Below.trod EJ (by kernel_rfl) (of_decide_eq_true (by kernel_rfl)) h0 bel lt0) trodAll_mk0),rfl,bel.frame _,fun h=>by cases h⟩
theorem ek {a b:Bool} (h:a=true) (g:b=true):(a&&b)=true:=by rw[h,g];rfl
theorem fact0:(Rows.fnGraphRow.wf (OpenSpec.ofChange Rows.fnGraphSpec))=true:=by kernel_rfl
theorem fact1:(laidOutB Tryz.prog)=true:=by kernel_rfl
theorem fact2:(mapsRowed Tryz.prog)=true:=by kernel_rfl
theorem fact3:(Tryz.f7.params.all (Tryz.prog.readableRec ·))=true:=by kernel_rfl
theorem fact4:(namedTie Tryz.prog Rows.fnGraphRow.named Rows.fnGraphSpec.vars)=true:=by kernel_rfl
theorem fact5:((Rows.fnGraphRow.stops==[]))=true:=by kernel_rfl
theorem fact6:((Tryz.prog.stops==[]))=true:=by kernel_rfl
theorem fact7:((Rows.fnGraphRow.knobs==[]))=true:=by kernel_rfl
theorem fact8:((Tryz.prog.stopKnobs==[]))=true:=by kernel_rfl
theorem fact9:((Rows.fnGraphRow.inPlace==Tryz.prog.inPlace (7:FuncId)))=true:=by kernel_rfl
theorem E2:((Rows.fnGraphRow.unfollowed==Tryz.prog.unfollowed (7:FuncId)))=true:=by kernel_rfl
theorem FW:((Rows.fnGraphRow.recurses==Tryz.prog.recurses (7:FuncId)))=true:=by kernel_rfl
theorem FB:((Rows.fnGraphRow.named==Tryz.prog.varsNamed (7:FuncId)))=true:=by kernel_rfl
theorem Fu:((Rows.fnGraphRow.maps==(Tryz.f7.params.toList++Rows.fnGraphSpec.plain.varTypes Tryz.prog).any (Tryz.prog.mapsRec ·)))=true:=by kernel_rfl
theorem Fq:((Rows.fnGraphRow.ifaces==(Tryz.f7.params.toList++Rows.fnGraphSpec.plain.varTypes Tryz.prog).any (Tryz.prog.ifacesRec ·)))=true:=by kernel_rfl
theorem FM:((Rows.fnGraphRow.mapsOut==Tryz.prog.mapsAmong Tryz.f7.resultTypes.toList))=true:=by kernel_rfl
theorem Fo:((Rows.fnGraphRow.loops==(Tryz.f7.params.toList++Rows.fnGraphSpec.plain.varTypes Tryz.prog).any (Tryz.prog.loopsFrom ·)))=true:=by kernel_rfl
theorem FN:((Rows.fnGraphRow.wideKeys==(Tryz.f7.params.toList++Rows.fnGraphSpec.plain.varTypes Tryz.prog++Tryz.f7.resultTypes.toList).any (Tryz.prog.wideKeysFrom ·)))=true:=by kernel_rfl
theorem FT:(Rows.fnGraphSpec.vars.all (Tryz.prog.varReadable ·))=true:=by kernel_rfl
theorem Fx:(Tryz.f7.resultTypes.all (fun t=>Tryz.prog.readableRec t&&decide (t<Tryz.prog.types.size)))=true:=by kernel_rfl
theorem Fr:((Rows.fnGraphRow.ifacesOut==Tryz.f7.resultTypes.toList.any (Tryz.prog.ifacesRec ·)))=true:=by kernel_rfl
theorem FA:((Rows.fnGraphRow.loopsOut==Tryz.f7.resultTypes.toList.any (Tryz.prog.loopsFrom ·)))=true:=by kernel_rfl
theorem FH:((Rows.fnGraphRow.plainKeys==Tryz.prog.plainKeys))=true:=by kernel_rfl
theorem Fz:(Rows.fnGraphRow.shortTexts.isNone)=true:=by kernel_rfl
theorem FI:(Tryz.prog.stopsHeard)=true:=by kernel_rfl
theorem Ff:(Tryz.prog.mayEnter)=true:=by kernel_rfl
theorem Fk:((Rows.fnGraphRow.lifted==Tryz.prog.liftsFinal))=true:=by kernel_rfl
theorem Fj:((Tryz.prog.make==some Rows.fnGraphRow.make))=true:=by kernel_rfl
theorem Fp:((Rows.fnGraphRow.kinds==(if Rows.fnGraphRow.domain.isEmpty then[] else Tryz.f7.params.toList.map fun t=>match Tryz.prog.underlying t with|some (.int k)=>some k|_=>none)))=true:=by kernel_rfl
theorem E3:((Rows.fnGraphRow.pinned==Rows.fnGraphRow.pinnedBy))=true:=by kernel_rfl
theorem Fm:((Rows.fnGraphRow.veiled==(Tryz.f7.params.toList++Rows.fnGraphSpec.plain.varTypes Tryz.prog++Tryz.f7.resultTypes.toList).any (Tryz.prog.veiledRec ·)))=true:=by kernel_rfl
theorem FJ:(Rows.fnGraphRow.veiledFits Tryz.prog Tryz.f7.params.toList (Tryz.f7.params.toList++Rows.fnGraphSpec.plain.varTypes Tryz.prog++Tryz.f7.resultTypes.toList))=true:=by kernel_rfl
set_option maxRecDepth 100000 in
theorem FR:joinedFacts Tryz.prog 7 Tryz.f7 Rows.fnGraphSpec Rows.fnGraphRow=true:=ek (ek (ek (ek (ek (ek (ek (ek (ek (ek (ek (ek (ek (ek (ek (ek (ek (ek (ek (ek (ek (ek (ek (ek (ek (ek (ek (ek (ek (ek (ek fact0 fact1) fact2) fact3) fact4) fact5) fact6) fact7) fact8) fact9) E2) FW) FB) Fu) Fq) FM) Fo) FN) FT) Fx) Fr) FA) FH) Fz) FI) Ff) Fk) Fj) Fp) E3) Fm) FJ
theorem over (pure:FE):Rows.fnGraphRow.holds Tryz.pinned (OpenSpec.ofChange Rows.fnGraphSpec):=
  OpenClaim.holds_of_wide 7 Tryz.f7 rfl rfl rfl rfl rfl rfl rfl ⟨rfl,rfl,rfl,rfl,rfl⟩ rfl rfl rfl rfl rfl (by kernel_rfl) Tryz.func7 FR
    (of_decide_eq_true (by kernel_rfl)) (by unfold Func.isWrapper;first|(rw[if_pos (by decide +kernel)];kernel_rfl)|(rw[if_neg (by decide +kernel)];exact⟨rfl,rfl⟩))
    (fun os started H enc _=>lifted pure os started H enc)
end Go.Proofs.YtlbnmldopjadoaaGreat.fnGraph
