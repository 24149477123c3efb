/- The row of FnEngKeys, out of the statement about data. -/
import Derived.Test.YtlbnmldopjadoaaGreatC16
import Derived.Test.YtlbnmldopjadoaaGreatRows
import Derived.WalkKit
import Derived.ProofKit
import Derived.OpenShut
import Derived.ShutString
import Derived.ChangeOld
import Derived.Below
import Derived.SizedLaws
namespace Go.Proofs.YtlbnmldopjadoaaGreat.fnEngKeys
open Go Go.Vm Go.ChangeShapes Go.WideShapes Go.ChangeAt Go.RowKit
set_option linter.unusedVariables false
theorem sh_5 {n:Nat} {cs:List A} (h:Sh E n 5 cs):∃x:Int,cs=[.lit (.int .u8 x)]∧(Lit.int .u8 x).wf=true:=by
  cases n with
  |zero=>exact h.elim
  |succ n=>
  simp only[Sh,show(E.info 5).td= .int .u8 from rfl] at h
  exact h
theorem sh_22 {n:Nat} {cs:List A} (h:Sh E n 22 cs):∃x:List Int,cs=[.tree (nF x)]∧(x.length * 1≤reachBytes∧∀y∈x,(Lit.int .u8 y).wf=true):=by
  cases n with
  |zero=>exact h.elim
  |succ n=>
  simp only[Sh,show(E.info 22).td= .slice 5 from rfl] at h
  obtain⟨rows,rfl,h1,h2⟩:=h
  obtain⟨l,e,hl⟩:=BK (c:=c_Iu8) (W:=fun y=>(Lit.int .u8 y).wf=true) (fun r hr=>by obtain⟨x,e,w⟩:=sh_5 (h2 r hr);exact⟨x,e,w⟩)
  refine⟨l,by rw[e];rfl,?_,hl⟩
  rw[e,List.length_map] at h1
  exact h1
/-- the one statement about data alone -/
def IP:Prop:=∀(p0:List Int),(p0.length * 1≤reachBytes∧∀y∈p0,(Lit.int .u8 y).wf=true)→∃k,bi.f k p0=some true
theorem own:ownKnob Tryz.prog.godebug=none:=by kernel_rfl
theorem HP:laidOutB Tryz.prog=true:=by kernel_rfl
theorem supp:Ha E [22,5]=true:=by kernel_rfl
set_option maxRecDepth 100000 in
theorem lifted (pure:IP) (os:Os) (started:os.Started) (H:Type) (enc:TypeId×Value→H) :
    ReturnsInHanded {} Tryz.checked os 8 .any (Rows.fnEngKeysSpec.pre6 enc Tryz.prog Tryz.f8 Rows.fnEngKeysRow.domain false) (Rows.fnEngKeysSpec.post enc Tryz.prog Tryz.f8 false true false false):=by
  refine returnsInHanded_of_change_sized (C:=Tryz.checked) own started (by kernel_rfl) Tryz.func8
    (ChangeSpec.witness6 (enc:=enc) (C:=Tryz.checked) false ⟨#[],#[.slice none 0 0],[]⟩ 8 (by kernel_rfl) (by kernel_rfl) (by kernel_rfl) (by kernel_rfl)) ?_
  intro W base args ds gs before hval0 hW hcnd hsz0 _
  have hsz:(DataW.weightsEach Tryz.prog (Tryz.f8.params.toList++Rows.fnEngKeysSpec.plain.varTypes Tryz.prog) (ds++gs)).all (·≤reachBytes)=true:=hsz0
  have hval:∀(j:Nat) t v,Tryz.f8.params[j]? =some t→args[j]? =some v→Value.okWide Tryz.prog W .any base t v:=hval0
  have hW':=hW
  obtain⟨p,q,hA0,hV,rfl,hfz,hnd⟩:=hW
  have hA:DataW.TrodAll enc Tryz.prog W 0 (fun _=>true) true Tryz.f8.params.toList args.toList ds p:=hA0
  rw[Tryz.params8] at hA hval
  have hargs:=hA
  obtain⟨v0,vs0,d0,ds0,p0,q0,hargs,rfl,rfl,h0,r0⟩:=trodAll_cons hA
  obtain⟨rfl,rfl,rfl⟩:=trodAll_nil r0
  obtain rfl:args= #[v0]:=by cases args;simp_all
  obtain⟨rfl,rfl⟩:=trodVars_none hV
  have lt0:∀x∈p0,x.block<W.heap.size:=by obtain⟨m,hm⟩:=h0;exact DataW.trod_lt m _ _ _ hm
  obtain⟨b0,len0,cap0,rfl⟩:=okWide_slice Tryz.underlying22 (hval 0 22 v0 rfl rfl)
  have hw0:∀n∈d0.weights Tryz.prog 22,n≤reachBytes:=fun n hn=>by
    have:=List.all_eq_true.1 hsz n (DataW.weights_mem_each (j:=0) (t:=22) (d:=d0) rfl rfl n hn)
    simpa using this
  obtain⟨x0,e0,w0⟩:∃x:List Int,CR W (fun b=>b<W.heap.size) none (tA (nF x)) (.slice b0 len0 cap0) Set.no∧(x.length * 1≤reachBytes∧∀y∈x,(Lit.int .u8 y).wf=true):=by
    obtain⟨m,hm⟩:=h0
    obtain⟨cs2,s1,s2⟩:=xI eok supp m 22 _ _ (by decide) hm hw0
    obtain⟨x,rfl,hx⟩:=sh_22 s1
    obtain⟨c,e,hc⟩:=af.single s2
    cases e
    exact⟨x,hc,hx⟩
  obtain⟨k,hp⟩:=pure x0 w0
  have hvals:af W (fun b=>b<W.heap.size) none [tA (nF x0)] [.slice b0 len0 cap0] Set.no:=by
    simp only[af]
    exact⟨Set.no,Set.no,e0,True.intro,Set.le_refl _,Set.le_refl _,Set.no_dis _⟩
  refine Calls.mono' ((vJ .mk hp).2 W (fun b=>b<W.heap.size) Set.no _ hvals (Set.no_dis _) (fun _ h=>h) (fun _ z=>z.elim)) ?_
  intro e W' hq
  cases e with
  |panicked _=>exact hq.elim
  |outgrown=>exact hq.elim
  |returned v=>
  obtain⟨imm',T1,T2,_,_,hr,_,_,_,_,_,hkeep,hgrow,hos,hout,htape,_⟩:=hq
  have hv:v= .bool true:=by simpa only[CR] using hr
  subst hv
  have bel:RowKit.Below W.heap.size W W':=⟨hos,htape,hout,hgrow,fun b hb=>hkeep b hb (fun z=>z)⟩
  exact⟨_,rfl,_,_,_,[],_,[],hW',trodAll_mk1 (shut_bool Tryz.underlying4 _),(trodAll_cons_mk (Below.trod HP (by kernel_rfl) (of_decide_eq_true (by kernel_rfl)) h0 bel lt0) trodAll_mk0),rfl,bel.frame _,fun h=>by cases h⟩
theorem eS {a b:Bool} (h:a=true) (g:b=true):(a&&b)=true:=by rw[h,g];rfl
theorem fact0:(Rows.fnEngKeysRow.wf (OpenSpec.ofChange Rows.fnEngKeysSpec))=true:=by kernel_rfl
theorem fact1:(laidOutB Tryz.prog)=true:=by kernel_rfl
theorem fact2:(mapsRowed Tryz.prog)=true:=by kernel_rfl
theorem fact3:(Tryz.f8.params.all (Tryz.prog.readableRec ·))=true:=by kernel_rfl
theorem fact4:(namedTie Tryz.prog Rows.fnEngKeysRow.named Rows.fnEngKeysSpec.vars)=true:=by kernel_rfl
theorem fact5:((Rows.fnEngKeysRow.stops==[]))=true:=by kernel_rfl
theorem fact6:((Tryz.prog.stops==[]))=true:=by kernel_rfl
theorem fact7:((Rows.fnEngKeysRow.knobs==[]))=true:=by kernel_rfl
theorem fact8:((Tryz.prog.stopKnobs==[]))=true:=by kernel_rfl
theorem fact9:((Rows.fnEngKeysRow.inPlace==Tryz.prog.inPlace (8:FuncId)))=true:=by kernel_rfl
theorem Ia:((Rows.fnEngKeysRow.unfollowed==Tryz.prog.unfollowed (8:FuncId)))=true:=by kernel_rfl
theorem I6:((Rows.fnEngKeysRow.recurses==Tryz.prog.recurses (8:FuncId)))=true:=by kernel_rfl
theorem IL:((Rows.fnEngKeysRow.named==Tryz.prog.varsNamed (8:FuncId)))=true:=by kernel_rfl
theorem IC:((Rows.fnEngKeysRow.maps==(Tryz.f8.params.toList++Rows.fnEngKeysSpec.plain.varTypes Tryz.prog).any (Tryz.prog.mapsRec ·)))=true:=by kernel_rfl
theorem Iy:((Rows.fnEngKeysRow.ifaces==(Tryz.f8.params.toList++Rows.fnEngKeysSpec.plain.varTypes Tryz.prog).any (Tryz.prog.ifacesRec ·)))=true:=by kernel_rfl
theorem IW:((Rows.fnEngKeysRow.mapsOut==Tryz.prog.mapsAmong Tryz.f8.resultTypes.toList))=true:=by kernel_rfl
theorem Iw:((Rows.fnEngKeysRow.loops==(Tryz.f8.params.toList++Rows.fnEngKeysSpec.plain.varTypes Tryz.prog).any (Tryz.prog.loopsFrom ·)))=true:=by kernel_rfl
theorem IX:((Rows.fnEngKeysRow.wideKeys==(Tryz.f8.params.toList++Rows.fnEngKeysSpec.plain.varTypes Tryz.prog++Tryz.f8.resultTypes.toList).any (Tryz.prog.wideKeysFrom ·)))=true:=by kernel_rfl
theorem I3:(Rows.fnEngKeysSpec.vars.all (Tryz.prog.varReadable ·))=true:=by kernel_rfl
theorem IG:(Tryz.f8.resultTypes.all (fun t=>Tryz.prog.readableRec t&&decide (t<Tryz.prog.types.size)))=true:=by kernel_rfl
theorem Iz:((Rows.fnEngKeysRow.ifacesOut==Tryz.f8.resultTypes.toList.any (Tryz.prog.ifacesRec ·)))=true:=by kernel_rfl
theorem IJ:((Rows.fnEngKeysRow.loopsOut==Tryz.f8.resultTypes.toList.any (Tryz.prog.loopsFrom ·)))=true:=by kernel_rfl
theorem IR:((Rows.fnEngKeysRow.plainKeys==Tryz.prog.plainKeys))=true:=by kernel_rfl
theorem II:(Rows.fnEngKeysRow.shortTexts.isNone)=true:=by kernel_rfl
theorem IT:(Tryz.prog.stopsHeard)=true:=by kernel_rfl
theorem Io:(Tryz.prog.mayEnter)=true:=by kernel_rfl
theorem It:((Rows.fnEngKeysRow.lifted==Tryz.prog.liftsFinal))=true:=by kernel_rfl
theorem Is:((Tryz.prog.make==some Rows.fnEngKeysRow.make))=true:=by kernel_rfl
theorem Ix:((Rows.fnEngKeysRow.kinds==(if Rows.fnEngKeysRow.domain.isEmpty then[] else Tryz.f8.params.toList.map fun t=>match Tryz.prog.underlying t with|some (.int k)=>some k|_=>none)))=true:=by kernel_rfl
theorem Ic:((Rows.fnEngKeysRow.pinned==Rows.fnEngKeysRow.pinnedBy))=true:=by kernel_rfl
theorem Iv:((Rows.fnEngKeysRow.veiled==(Tryz.f8.params.toList++Rows.fnEngKeysSpec.plain.varTypes Tryz.prog++Tryz.f8.resultTypes.toList).any (Tryz.prog.veiledRec ·)))=true:=by kernel_rfl
theorem IU:(Rows.fnEngKeysRow.veiledFits Tryz.prog Tryz.f8.params.toList (Tryz.f8.params.toList++Rows.fnEngKeysSpec.plain.varTypes Tryz.prog++Tryz.f8.resultTypes.toList))=true:=by kernel_rfl
set_option maxRecDepth 100000 in
theorem I1:joinedFacts Tryz.prog 8 Tryz.f8 Rows.fnEngKeysSpec Rows.fnEngKeysRow=true:=eS (eS (eS (eS (eS (eS (eS (eS (eS (eS (eS (eS (eS (eS (eS (eS (eS (eS (eS (eS (eS (eS (eS (eS (eS (eS (eS (eS (eS (eS (eS fact0 fact1) fact2) fact3) fact4) fact5) fact6) fact7) fact8) fact9) Ia) I6) IL) IC) Iy) IW) Iw) IX) I3) IG) Iz) IJ) IR) II) IT) Io) It) Is) Ix) Ic) Iv) IU
theorem over (pure:IP):Rows.fnEngKeysRow.holds Tryz.pinned (OpenSpec.ofChange Rows.fnEngKeysSpec):=
  OpenClaim.holds_of_wide 8 Tryz.f8 rfl rfl rfl rfl rfl rfl rfl ⟨rfl,rfl,rfl,rfl,rfl⟩ rfl rfl rfl rfl rfl (by kernel_rfl) Tryz.func8 I1
    (of_decide_eq_true (by kernel_rfl)) (by unfold Func.isWrapper;first|(rw[if_pos (by decide +kernel)];kernel_rfl)|(rw[if_neg (by decide +kernel)];exact⟨rfl,rfl⟩))
    (fun os started H enc _=>lifted pure os started H enc)
end Go.Proofs.YtlbnmldopjadoaaGreat.fnEngKeys
