/- A small evaluator over the code of a program, and that it is sound, third part. -/
import Derived.Test.YtlbnmldopjadoaaGreatVb
import Derived.ChangeArms
import Derived.SizedLaws
/- Results that lie in cells; loops with one way out; arguments that are lent. -/
namespace Go.Vm
section
variable {P : Program} {E : TE} {ρ : Env} {σ : St} {K : List W → Prop} {a : Act} {w : World} {imm : Set} {Λ : Lam} {F : Key → Set}

/-- the results of a body: slots, or cells -/
def iZ (E : TE) : List (Nat × Option Nat) → (List A → Pg) → Pg
  | [], f => f []
  | (t, none) :: ts, f => .gs t fun a => iZ E ts fun as => f (a :: as)
  | (t, some u) :: ts, f => .gs t fun p => match p with
    | .mptr κ g i off => .gn κ fun h => match h with
      | .box g' cells => if g = g' ∧ i = 0 then (oo (cut off (E.info u).size cells) fun cs => if cs.all plain then (oo (dD (E.info u).td cs) fun v => iZ E ts fun as => f (v :: as)) else .fail) else .fail
      | _ => .fail
    | _ => .fail
def resVar : Nat × Option Nat → ResultVar
  | (t, none) => .tmp t
  | (t, some u) => .cell t u
def ko (P : Program) (w : World) (tmps : Array Value) (x : Nat × Option Nat) : Value := match (eT tmps (resVar x)).run P w with
  | .ok v _ => v
  | _ => undef
theorem iz (hE : EOk P E) (h : aB ρ σ a w imm Λ F) : ∀ (ts : List (Nat × Option Nat)) (f : List A → Pg), (∀ x ∈ ts, x.1 < 1000000) → (iZ E ts f).holds σ K →
    ∃ vs, (f vs).holds σ K ∧ ae w imm (some Λ) vs (ts.map (ko P w a.tmps)) Set.no ∧ ∀ x ∈ ts, (eT a.tmps (resVar x)).run P w = .ok (ko P w a.tmps x) w
  | [], f, _, hh => ⟨[], hh, by simp only [List.map_nil, ae], by simp⟩
  | (t, none) :: ts, f, hl, hh => by
    obtain ⟨vs, h1, h2, h3⟩ := iz hE h ts _ (fun x hx => hl x (List.mem_cons_of_mem _ hx)) hh
    have ht : t < 1000000 := hl _ List.mem_cons_self
    have hr : (eT a.tmps (resVar (t, none))).run P w = .ok (a.tmps.getD t undef) w := by simp [eT, resVar]
    have hg : ko P w a.tmps (t, none) = a.tmps.getD t undef := by unfold ko; rw [hr]
    have hs := h.slots t
    unfold slotv at hs
    rw [if_pos ht] at hs
    refine ⟨_ :: vs, h1, ?_, ?_⟩
    · simp only [List.map_cons, ae]
      rw [hg]
      exact ⟨Set.no, Set.no, hs, h2, Set.le_refl _, Set.le_refl _, Set.no_dis _⟩
    · intro x hx
      rcases List.mem_cons.1 hx with rfl | hx
      · rw [hg]; exact hr
      · exact h3 x hx
  | (t, some u) :: ts, f, hl, hh => by
    have ht : t < 1000000 := hl _ List.mem_cons_self
    have hs := h.slots t
    simp only [iZ, Pg.holds] at hh
    unfold slotv at hs
    rw [if_pos ht] at hs
    cases hx : lkS σ.slots t <;> rw [hx] at hh hs <;> simp only [Pg.holds] at hh
    rename_i κ g i off
    have hN := h.nodes κ
    simp only [CR] at hs
    cases hn : lkN σ.heap κ.1 κ.2 <;> rw [hn] at hh hN <;> simp only [Pg.holds] at hh
    rename_i g' cells
    split at hh
    · rename_i hg
      obtain ⟨rfl, rfl⟩ := hg
      obtain ⟨h1, h2, h3, b, base, size, S', h4, h5, h6, h7, h8, h9, h10⟩ := hN
      obtain ⟨b', base', size', e1, e2⟩ := c8.at hs h1 (by rw [h4]; simp)
      rw [h4] at e1
      simp only [Loc.at_.injEq] at e1
      obtain ⟨rfl, rfl, rfl⟩ := e1
      obtain ⟨cs, hcut, hh⟩ := bt hh
      split at hh
      · rename_i hp
        obtain ⟨v, hm, hh⟩ := bt (x := dD _ _) hh
        obtain ⟨y, hrun, hv⟩ := jd (P := P) hE (ag.cut _ _ _ _ _ _ hcut h10) (kW _ _ _ _ hcut) hm
        obtain ⟨vs, q1, q2, q3⟩ := iz hE h ts _ (fun x hx => hl x (List.mem_cons_of_mem _ hx)) hh
        have hr : (eT a.tmps (resVar (t, some u))).run P w = .ok y w := by
          have hrun' : (loadVar u ⟨b, base + off, none⟩).run P w = .ok y w := by
            simpa [Instr.loadAt, Instr.sureAddr] using hrun
          simp only [eT, resVar, e2, asAddr, Nat.zero_mul, Nat.add_zero, Sem.run_bind, Sem.run_pure, Result.andThen_ok]
          exact hrun'
        have hg : ko P w a.tmps (t, some u) = y := by unfold ko; rw [hr]
        refine ⟨_ :: vs, q1, ?_, ?_⟩
        · simp only [List.map_cons, ae]
          rw [hg]
          exact ⟨Set.no, Set.no, kv hm hp hv, q2, Set.le_refl _, Set.le_refl _, Set.no_dis _⟩
        · intro x hx
          rcases List.mem_cons.1 hx with rfl | hx
          · rw [hg]; exact hr
          · exact q3 x hx
      · exact hh.elim
    · exact hh.elim
theorem ml {fn : Func} {ts : List (Nat × Option Nat)} (h : fn.results.toList = ts.map resVar) (tmps : Array Value) (hr : ∀ x ∈ ts, (eT tmps (resVar x)).run P w = .ok (ko P w tmps x) w) :
    (results fn tmps).run P w = .ok (gG (ts.map (ko P w tmps)).toArray) w := by
  let G : ResultVar → Value := fun x => match (eT tmps x).run P w with
    | .ok v _ => v
    | _ => undef
  have hm : (fn.results.mapM (eT tmps)).run P w = .ok (ts.map (ko P w tmps)).toArray w := by
    rw [qH (P := P) (w := w) (f := eT tmps) (g := G) fn.results (fun x hx => by
        rw [h] at hx
        obtain ⟨t, ht, rfl⟩ := List.mem_map.1 hx
        have := hr t ht
        show _ = Result.ok (match (eT tmps (resVar t)).run P w with
          | .ok v _ => v
          | _ => undef) w
        rw [this]), h, List.map_map]
    rfl
  rw [uc, Sem.run_bind, hm]
  rfl

def vn (E : TE) (C : Ctx) (ts : List (Nat × Option Nat)) (rm : List Mode) (gs : List Nat) (pm : List Mode) (post : List A) (r : A) : Pg :=
  iZ E ts fun vs => kD gs fun as => gz C 40 rm vs fun rds => gz C 40 pm as fun pds => .need (gS rds = r ∧ pds = post) (.done [])
def rn (E : TE) (C : Ctx) (c : Code) (ts : List (Nat × Option Nat)) (rm : List Mode) (gs : List Nat) (pm : List Mode) (ds post : List A) (r : A) : Prop :=
  kZ C 0 ds ⟨[], []⟩ fun σ => wpC E C c (fun e σ => match e with
    | .exit _ => False
    | _ => (vn E C ts rm gs pm post r).holds σ fun _ => True) σ

theorem sg (hE : EOk P E) (hm : P.follows .mixedOrders = true) {f : FuncId} {fn : Func} {c : Code} {ts : List (Nat × Option Nat)} {rm : List Mode} {gs : List Nat} {pm : List Mode} {ds post : List A} {r : A} (hf : P.funcs[f]? = some fn) (hname : (fn.name == "runtime.NumGoroutine") = false) (hb : fn.body = some c)
    (hres : fn.results.toList = ts.map resVar) (hcode : cY fn.ntmps c = true) (hn : fn.ntmps ≤ 1000000) (hds : ds.length ≤ fn.ntmps) (hgs : gs = (List.range ds.length).map (1000000 + ·)) (hts : ∀ t ∈ ts, t.1 < 1000000)
    (h : rn E (fN P) c ts rm gs pm ds post r) : am P f ds post r := by
  refine ⟨⟨fn, hf, hname, by simp [hb]⟩, fun w imm S vs hv hSi himm hS => ?_⟩
  refine calls_of_wp hf hb ?_
  have hvl := hv.length
  let ρ : Env := ⟨w, S, imm, fn.ntmps, vs⟩
  let a : Act := { tmps := vs.toArray ++ Array.replicate (fn.ntmps - vs.toArray.size) undef, defers := [] }
  have h0 : aB ρ ⟨[], []⟩ a w imm (fun _ => ⟨0, .gone, 0, 0⟩) (fun _ => Set.no) :=
    { size := by show (vs.toArray ++ Array.replicate (fn.ntmps - vs.toArray.size) undef).size = fn.ntmps
                 simp; omega
      nlt := hn
      slots := fun t => by simp only [lkS, CR]
      nodes := fun κ => ⟨rfl, rfl⟩
      dis := fun _ _ _ => Set.no_dis _
      fimm := fun _ => Set.no_dis _
      flt := fun _ _ z => z.elim
      immlt := fun b hb => ⟨himm b hb, .inl hb⟩
      imm0 := Set.le_refl _
      keep := fun _ _ _ => rfl
      grow := Nat.le_refl _
      os := ⟨rfl, rfl, rfl, aJ.refl w⟩
      defers := rfl }
  have hslot : ∀ j, j < vs.length → vs[j]? = some (slotv ρ a j) ∧ vs[j]? = some (slotv ρ a (1000000 + j)) := by
    intro j hj
    have hj2 : j < 1000000 := by omega
    constructor
    · unfold slotv
      rw [if_pos hj2]
      show _ = some ((vs.toArray ++ Array.replicate (fn.ntmps - vs.toArray.size) undef).getD j undef)
      rw [Array.getD_eq_getD_getElem?, Array.getElem?_append_left (by simpa using hj)]
      simp [hj]
    · unfold slotv
      rw [if_neg (by omega)]
      show _ = some (vs.getD (1000000 + j - 1000000) undef)
      rw [show 1000000 + j - 1000000 = j by omega]
      simp [hj]
  obtain ⟨σ, hw, hr⟩ := ny (P := P) ds 0 vs _ _ _ S h0 hv ⟨fun _ _ _ z => z, hSi, fun b hb => ⟨hS b hb, .inl hb⟩⟩ (fun j hj => by simpa using hslot j hj) h
  refine wp_mono (dO hE hm c _ σ hw ρ a w hcode hr) ?_
  intro e a' w' hq
  have fin : (∃ σ', (vn E (fN P) ts rm gs pm post r).holds σ' (fun _ => True) ∧ Rel ρ σ' a' w') → bodyPost P fn (fun
      | .returned v, w' => ∃ imm' T1 T2, Set.le imm imm' ∧ ae w' imm' none post vs T1 ∧ CR w' imm' none r v T2 ∧ Set.dis T1 T2 ∧ Set.dis T1 imm' ∧ Set.dis T2 imm' ∧
          (∀ b, T1 b ∨ T2 b → b < w'.heap.size ∧ (S b ∨ w.heap.size ≤ b)) ∧ (∀ b, imm' b → b < w'.heap.size ∧ (imm b ∨ S b ∨ w.heap.size ≤ b)) ∧
          (∀ b, b < w.heap.size → ¬ S b → w'.heap[b]? = w.heap[b]?) ∧ w.heap.size ≤ w'.heap.size ∧ w'.os = w.os ∧ w'.output = w.output ∧ w'.tape = w.tape ∧ aJ w w'
      | .panicked _, _ => False
      | .outgrown, _ => False) .ret a' w' := by
    rintro ⟨σ', hh, imm0, Λ', F', hX⟩
    obtain ⟨rvs, hh1, hrv, hruns⟩ := iz hE hX ts _ hts hh
    obtain ⟨as, hh2, has⟩ := lK hX hh1
    have hP0 : c7 σ' Λ' (fun b => ∃ κ, F' κ b) σ' w' imm0 F' := ⟨fun _ => rfl, fun κ => .inr (hX.nodes κ), hX.dis, hX.fimm, fun κ b hb => ⟨κ, hb⟩⟩
    obtain ⟨ws1, rds, imm1, F1, S1, q1, q2, q3, q4, q5, q6, q7, q8, _⟩ := fR rvs rm _ _ σ' imm0 F' _ hP0 hrv hh2
    obtain ⟨ws2, pds, imm2, F2, S2, p1, p2, p3, p4, p5, p6, p7, p8, _⟩ := fR as pm _ _ _ imm1 F1 _ q2 (ae.stable q3 (fun _ _ => rfl) _ _ _ _ _ _ (bi?.refl _) (Set.le_refl _) (fun _ _ => rfl) has) q1
    obtain ⟨⟨rfl, rfl⟩, _⟩ := p1
    have hgv : gs.map (slotv ρ a') = vs := by
      rw [hgs]
      apply List.ext_getElem?
      intro j
      simp only [List.map_map, List.getElem?_map]
      rcases Nat.lt_or_ge j vs.length with hj | hj
      · rw [List.getElem?_range (by omega)]
        simp only [Option.map_some, Function.comp]
        unfold slotv
        rw [if_neg (by omega)]
        show some (vs.getD (1000000 + j - 1000000) undef) = _
        rw [show 1000000 + j - 1000000 = j by omega]
        simp [hj]
      · rw [List.getElem?_eq_none (by simp; omega), List.getElem?_eq_none hj]; rfl
    rw [hgv] at p4
    refine ⟨hX.defers, _, ml hres a'.tmps hruns, imm2, S2, S1, Set.le_trans hX.imm0 (Set.le_trans q3 p3), p4, ?_, fun b hb hb2 => ?_, p5.imm, fun b hb hb2 => ?_, fun b hb => ?_, fun b hb => ?_, hX.keep, hX.grow, hX.os⟩
    · exact CR.stable p3 (fun _ _ => rfl) none none _ _ _ _ trivial (Set.le_refl _) (fun _ _ => rfl) (tI q4)
    · obtain ⟨κ, hk⟩ := p8 b hb
      exact q5.dis κ b hb2 hk
    · rcases p6 b hb2 with h' | ⟨κ, h'⟩
      · exact q5.imm b hb h'
      · exact q5.dis κ b hb h'
    · have : ∃ κ, F' κ b := by
        rcases hb with hb | hb
        · obtain ⟨κ, hk⟩ := p8 b hb; exact ⟨κ, q7 κ b hk⟩
        · exact q8 b hb
      obtain ⟨κ, hk⟩ := this
      exact hX.flt κ b hk
    · have : imm0 b ∨ ∃ κ, F' κ b := by
        rcases p6 b hb with h' | ⟨κ, h'⟩
        · exact q6 b h'
        · exact .inr ⟨κ, q7 κ b h'⟩
      rcases this with h' | ⟨κ, hk⟩
      · exact hX.immlt b h'
      · exact ⟨(hX.flt κ b hk).1, .inr (hX.flt κ b hk).2⟩
  cases e with
  | normal => exact fin hq
  | ret => exact fin hq
  | exit id => obtain ⟨_, h', _⟩ := hq; exact h'.elim
  | _ => exact hq.elim

def l9 (fn : Func) (n : Nat) (ts : List (Nat × Option Nat)) : Bool := !(fn.name == "runtime.NumGoroutine") && !fn.body.isNone && cY fn.ntmps (fn.body.getD .skip) && Nat.ble fn.ntmps 1000000 && Nat.ble n fn.ntmps && ts.all fun t => Nat.blt t.1 1000000
theorem w6 {P : Program} {E : TE} (hE : EOk P E) (hm : P.follows .mixedOrders = true) {f : FuncId} {fn : Func} {ts : List (Nat × Option Nat)} {rm : List Mode} {gs : List Nat} {pm : List Mode} {ds post : List A} {r : A} (hf : P.funcs[f]? = some fn)
    (hok : l9 fn ds.length ts = true) (hres : fn.results.toList = ts.map resVar) (hgs : gs = (List.range ds.length).map (1000000 + ·))
    (h : ∀ Fn LW IN len cast toNat wrap add sub mul bin lt eq At set part app fz rep nadd nmax ssize sext sget scat seq slt Wide Flat Ones Room r' post', (⟨Fn, LW, IN, len, cast, toNat, wrap, add, sub, mul, bin, lt, eq, At, set, part, app, fz, rep, nadd, nmax, ssize, sext, sget, scat, seq, slt, Wide, Flat, Ones, Room⟩ : Ctx) = fN P →
      (∀ f ds ds' post post' r, am P f ds' post' r → ds = ds' → post = post' → Fn f ds post r) → r' = r → post' = post →
      rn E ⟨Fn, LW, IN, len, cast, toNat, wrap, add, sub, mul, bin, lt, eq, At, set, part, app, fz, rep, nadd, nmax, ssize, sext, sget, scat, seq, slt, Wide, Flat, Ones, Room⟩ (fn.body.getD .skip) ts rm gs pm ds post' r') : am P f ds post r := by
  unfold l9 at hok
  simp only [Bool.and_eq_true, Bool.not_eq_true'] at hok
  obtain ⟨⟨⟨⟨⟨h1, h2⟩, h3⟩, h4⟩, h5⟩, h6⟩ := hok
  exact sg hE hm hf h1 (qD h2 rfl) hres h3 (Nat.le_of_ble_eq_true h4) (Nat.le_of_ble_eq_true h5) hgs (fun t ht => by have := List.all_eq_true.1 h6 t ht; simpa [Nat.blt_eq] using this) (h _ _ _ _ _ _ _ _ _ _ _ _ _ _ _ _ _ _ _ _ _ _ _ _ _ _ _ _ _ _ _ _ _ rfl (fun _ _ _ _ _ _ h e e' => by rw [e, e']; exact h) rfl rfl)

/-- a loop whose ways out are led to states that are said beforehand -/
theorem vK {P : Program} {E : TE} {C : Ctx} (hC : C = fN P) (hE : EOk P E) (hm : P.follows .mixedOrders = true) {c : Code} {Q : Ex → St → Prop} {σ : St} {ι ξ : Type} (I : ι → St) (Inv : ι → Prop) (μ : ι → Nat) (X : ξ → Ex) (T : ξ → St) (jM : ξ → Prop) (i0 : ι) (hi : Inv i0) (h0 : Cov σ (I i0))
    (rest : ∀ x, jM x → Q (X x) (T x))
    (round : ∀ i (N : St → Prop) (D : Ex → St → Prop), Inv i → (∀ σ' j, Inv j → μ j < μ i → Cov σ' (I j) → N σ') → (∀ σ' x, jM x → Cov σ' (T x) → D (X x) σ') → (∀ e σ', Q e σ' → D e σ') →
      wpC E C c (fun e σ' => match e with | .normal => N σ' | e => D e σ') (I i)) (hmk : jG c = false) : C.LW c Q σ := by
  subst hC
  have key : pV P (.loop c) (fun e σ' => Q e σ' ∨ ∃ x, jM x ∧ X x = e ∧ Cov σ' (T x)) σ :=
    vG hE hm (ι := { i // Inv i }) (fun i => I i.1) (fun i => μ i.1) ⟨i0, hi⟩ h0 fun i =>
      round i.1 _ (fun e σ' => Q e σ' ∨ ∃ x, jM x ∧ X x = e ∧ Cov σ' (T x)) i.2 (fun σ' j hj h2 h1 => ⟨⟨j, hj⟩, h1, h2⟩) (fun σ' x hx hc => .inr ⟨x, hx, rfl, hc⟩) (fun e σ' h => .inl h)
  refine we hmk ?_
  intro ρ a w hc hr
  have lift : ∀ e a w, v7 ρ (fun e σ' => Q e σ' ∨ ∃ x, jM x ∧ X x = e ∧ Cov σ' (T x)) e a w → v7 ρ Q e a w := by
    intro e a w h
    have st : ∀ e', (∃ σ, (Q e' σ ∨ ∃ x, jM x ∧ X x = e' ∧ Cov σ (T x)) ∧ Rel ρ σ a w) → ∃ σ, Q e' σ ∧ Rel ρ σ a w := by
      rintro e' ⟨σ', hq | ⟨x, hx, rfl, hcov⟩, hrel⟩
      · exact ⟨σ', hq, hrel⟩
      · exact ⟨T x, rest x hx, hcov ρ a w hrel⟩
    cases e with
    | normal => exact st _ h
    | exit id => exact st _ h
    | ret => exact st _ h
    | _ => exact h
  exact wp_mono (key ρ a w hc hr) lift

end
/- hypotheses taken apart -/
theorem ak {α : Type} {c : Prop} [Decidable c] {x y r : α} (h : (if c then x else y) = r) : (c ∧ x = r) ∨ (¬ c ∧ y = r) := by
  by_cases hc : c
  · rw [if_pos hc] at h; exact .inl ⟨hc, h⟩
  · rw [if_neg hc] at h; exact .inr ⟨hc, h⟩
def req {α : Type} (c : Prop) [Decidable c] (x : Option α) : Option α := if c then x else none
theorem aa {α : Type} {c : Prop} [Decidable c] {x : Option α} {r : α} (h : req c x = some r) : c ∧ x = some r := by
  unfold req at h
  rcases ak h with ⟨hc, h⟩ | ⟨_, h⟩
  · exact ⟨hc, h⟩
  · cases h
theorem af {α : Type} {c : Prop} [Decidable c] {x : Option α} (h : c) : req c x = x := if_pos h
theorem bind_some {α β : Type} {x : Option α} {f : α → Option β} {r : β} (h : x.bind f = some r) : ∃ y, x = some y ∧ f y = some r := by
  cases x with
  | none => cases h
  | some y => exact ⟨y, rfl, h⟩
end Go.Vm
/- Arguments that are lent; rows that are shut. -/
namespace Go.Vm
section
variable {P : Program} {E : TE} {Fn : FuncId → List A → List A → A → Prop} {LW : Code → (Ex → St → Prop) → St → Prop} {IN : InT} {ρ : Env} {σ : St} {K : List W → Prop} {a : Act} {w : World} {imm : Set} {Λ : Lam} {F : Key → Set}

mutual
/-- what it means does not lean on what stands still -/
def ownd : A → Bool
  | .lit _ => true
  | .emp => true
  | .hole => true
  | .inl _ rows => di rows
  | .obox cells => d3 cells
  | .agg cs => d3 cs
  | .tup cs => d3 cs
  | _ => false
def d3 : List A → Bool
  | [] => true
  | c :: cs => if ownd c then d3 cs else false
def di : Rows → Bool
  | [] => true
  | r :: rs => if d3 r then di rs else false
end
mutual
theorem CR.ownd {imm' : Set} : ∀ (x : A) (v : Value) (S : Set), Vm.ownd x = true → CR w imm none x v S → CR w imm' none x v S
  | .lit _, v, S, _, h => by simp only [CR] at h ⊢; exact h
  | .emp, v, S, _, h => by simp only [CR] at h ⊢; exact h
  | .hole, v, S, _, _ => by simp only [CR]
  | .inl k rows, v, S, ho, h => by
    simp only [Vm.ownd] at ho
    simp only [CR] at h ⊢
    obtain ⟨a, cap, e, h⟩ := h
    refine ⟨a, cap, e, h.imp id ?_⟩
    rintro ⟨b, o, size, S', h0, h1, h2, h3, h4, h5, h6, h7, h8⟩
    exact ⟨b, o, size, S', h0, h1, h2, h3, h4, h5, h6, h7, ap.ownd rows b o k S' ho h8⟩
  | .obox cells, v, S, ho, h => by
    simp only [Vm.ownd] at ho
    simp only [CR] at h ⊢
    obtain ⟨b, o, size, S', h0, h1, h2, h3, h4, h5, h6⟩ := h
    exact ⟨b, o, size, S', h0, h1, h2, h3, h4, h5, ag.ownd cells b o S' ho h6⟩
  | .agg cs, v, S, ho, h => by
    simp only [Vm.ownd] at ho
    simp only [CR] at h ⊢
    obtain ⟨vs, e, h⟩ := h
    exact ⟨vs, e, ae.ownd cs vs S ho h⟩
  | .tup cs, v, S, ho, h => by
    simp only [Vm.ownd] at ho
    simp only [CR] at h ⊢
    obtain ⟨vs, e, h⟩ := h
    exact ⟨vs, e, ae.ownd cs vs S ho h⟩
  | .tree _, v, S, ho, _ => by simp [Vm.ownd] at ho
  | .optr _ _ _, v, S, ho, _ => by simp [Vm.ownd] at ho
  | .ref .., v, S, ho, _ => by simp [Vm.ownd] at ho
  | .mptr .., v, S, ho, _ => by simp [Vm.ownd] at ho
  | .iptr .., v, S, ho, _ => by simp [Vm.ownd] at ho
  | .clo .., v, S, ho, _ => by simp [Vm.ownd] at ho
theorem ag.ownd {imm' : Set} : ∀ (cs : List A) (b o : Nat) (S : Set), d3 cs = true → ag w imm none cs b o S → ag w imm' none cs b o S
  | [], _, _, _, _, _ => by simp only [ag]
  | c :: cs, b, o, S, ho, h => by
    simp only [d3] at ho
    split at ho
    · rename_i hc
      simp only [ag] at h ⊢
      obtain ⟨v, S1, S2, h1, h2, h3, h4, h5, h6⟩ := h
      exact ⟨v, S1, S2, h1, CR.ownd c v S1 hc h2, ag.ownd cs b (o + 1) S2 ho h3, h4, h5, h6⟩
    · cases ho
theorem ap.ownd {imm' : Set} : ∀ (rs : Rows) (b o k : Nat) (S : Set), di rs = true → ap w imm none rs b o k S → ap w imm' none rs b o k S
  | [], _, _, _, _, _, _ => by simp only [ap]
  | r :: rs, b, o, k, S, ho, h => by
    simp only [di] at ho
    split at ho
    · rename_i hc
      simp only [ap] at h ⊢
      obtain ⟨S1, S2, h1, h2, h3, h4, h5, h6⟩ := h
      exact ⟨S1, S2, h1, ag.ownd r b o S1 hc h2, ap.ownd rs b (o + k) k S2 ho h3, h4, h5, h6⟩
    · cases ho
theorem ae.ownd {imm' : Set} : ∀ (cs : List A) (vs : List Value) (S : Set), d3 cs = true → ae w imm none cs vs S → ae w imm' none cs vs S
  | [], [], _, _, _ => by simp only [ae]
  | [], _ :: _, _, _, h => by simp only [ae] at h
  | _ :: _, [], _, _, h => by simp only [ae] at h
  | c :: cs, v :: vs, S, ho, h => by
    simp only [d3] at ho
    split at ho
    · rename_i hc
      simp only [ae] at h ⊢
      obtain ⟨S1, S2, h2, h3, h4, h5, h6⟩ := h
      exact ⟨S1, S2, CR.ownd c v S1 hc h2, ae.ownd cs vs S2 ho h3, h4, h5, h6⟩
    · cases ho
end
/-- some arguments are lent: the callee takes them for what stands still -/
inductive lT : List A → List A → List A → List A → Prop
  | nil : lT [] [] [] []
  | same {d p : A} {ds ps ds' ps' : List A} (hp : Vm.ownd p = true) (h : lT ds ps ds' ps') : lT (d :: ds) (p :: ps) (d :: ds') (p :: ps')
  | lend {d d' p : A} {ds ps ds' ps' : List A} (hd : d = fz d') (h : lT ds ps ds' ps') : lT (d :: ds) (p :: ps) (d' :: ds') (d' :: ps')

theorem lT.take {ds ps ds' ps' : List A} (h : lT ds ps ds' ps') : ∀ (vs : List Value) (S : Set), ae w imm none ds' vs S → ∃ SL SK : Set, Set.le SL S ∧ Set.le SK S ∧ Set.dis SL SK ∧ ae w (fun b => imm b ∨ SL b) none ds vs SK ∧
    ∀ (w' : World) (imm1 imm' T : Set), (∀ b, SL b → w'.heap[b]? = w.heap[b]?) → (∀ b, imm b → w'.heap[b]? = w.heap[b]?) → Set.le imm imm' → Set.dis T SL → ae w' imm1 none ps vs T → ae w' imm' none ps' vs (fun b => SL b ∨ T b) := by
  induction h with
  | nil =>
    intro vs S hv
    cases vs with
    | nil => exact ⟨Set.no, Set.no, Set.no_le _, Set.no_le _, Set.no_dis _, by simp only [ae], fun _ _ _ _ _ _ _ _ _ => by simp only [ae]⟩
    | cons => simp only [ae] at hv
  | @same d p ds ps ds' ps' hp _ ih =>
    intro vs S hv
    cases vs with
    | nil => simp only [ae] at hv
    | cons v vs =>
      simp only [ae] at hv
      obtain ⟨S1, S2, h1, h2, h3, h4, h5⟩ := hv
      obtain ⟨SL, SK, g1, g2, g3, g4, g5⟩ := ih vs S2 h2
      refine ⟨SL, fun b => S1 b ∨ SK b, Set.le_trans g1 h4, fun b hb => hb.elim (h3 b) (fun z => h4 b (g2 b z)), fun b hb hc => hc.elim (fun z => h5 b z (g1 b hb)) (g3 b hb), ?_, ?_⟩
      · simp only [ae]
        exact ⟨S1, SK, CR.stable (fun b hb => .inl hb) (fun _ _ => rfl) none none _ _ _ _ trivial (Set.le_refl _) (fun _ _ => rfl) h1, g4, fun b hb => .inl hb, fun b hb => .inr hb, fun b hb hc => h5 b hb (g2 b hc)⟩
      · intro w' imm1 imm' T q1 q2 q3 q4 q5
        simp only [ae] at q5 ⊢
        obtain ⟨T1, T2, t1, t2, t3, t4, t5⟩ := q5
        exact ⟨T1, fun b => SL b ∨ T2 b, CR.ownd p v T1 hp t1, g5 w' imm1 imm' T2 q1 q2 q3 (fun b hb => q4 b (t4 b hb)) t2, fun b hb => .inr (t3 b hb), fun b hb => hb.imp id (t4 b), fun b hb hc => hc.elim (fun z => q4 b (t3 b hb) z) (t5 b hb)⟩
  | @lend d d' p ds ps ds' ps' hd _ ih =>
    intro vs S hv
    subst hd
    cases vs with
    | nil => simp only [ae] at hv
    | cons v vs =>
      simp only [ae] at hv
      obtain ⟨S1, S2, h1, h2, h3, h4, h5⟩ := hv
      obtain ⟨SL, SK, g1, g2, g3, g4, g5⟩ := ih vs S2 h2
      refine ⟨fun b => S1 b ∨ SL b, SK, fun b hb => hb.elim (h3 b) (fun z => h4 b (g1 b z)), Set.le_trans g2 h4, fun b hb hc => hb.elim (fun z => h5 b z (g2 b hc)) (fun z => g3 b z hc), ?_, ?_⟩
      · simp only [ae]
        exact ⟨Set.no, SK, CR.freeze (fun b hb => .inl hb) _ v S1 h1 (fun b hb => .inr (.inl hb)), ae.stable (fun b hb => hb.imp id .inr) (fun _ _ => rfl) none none _ _ _ _ trivial (Set.le_refl _) (fun _ _ => rfl) g4, Set.no_le _, Set.le_refl _, Set.no_dis _⟩
      · intro w' imm1 imm' T q1 q2 q3 q4 q5
        simp only [ae] at q5 ⊢
        obtain ⟨T1, T2, t1, t2, t3, t4, t5⟩ := q5
        exact ⟨S1, fun b => SL b ∨ T2 b, CR.stable q3 q2 none none _ _ _ _ trivial (Set.le_refl _) (fun b hb => q1 b (.inl hb)) h1, g5 w' imm1 imm' T2 (fun b hb => q1 b (.inr hb)) q2 q3 (fun b hb hc => q4 b (t4 b hb) (.inr hc)) t2,
          fun b hb => .inl (.inl hb), fun b hb => hb.elim (fun z => .inl (.inr z)) (fun z => .inr (t4 b z)), fun b hb hc => hc.elim (fun z => h5 b hb (g1 b z)) (fun z => q4 b (t4 b z) (.inl hb))⟩

theorem am.lend {f : FuncId} {ds ps ds' ps' : List A} {r : A} (h : am P f ds ps r) (hr : Vm.ownd r = true) (hl : lT ds ps ds' ps') : am P f ds' ps' r := by
  refine ⟨h.1, fun w imm S vs hv hSi himm hS => ?_⟩
  obtain ⟨SL, SK, g1, g2, g3, g4, g5⟩ := hl.take vs S hv
  refine Calls.mono' (h.2 w (fun b => imm b ∨ SL b) SK vs g4 (fun b hb hc => hc.elim (hSi b (g2 b hb)) (fun z => g3 b z hb)) (fun b hb => hb.elim (himm b) (fun z => hS b (g1 b z))) (fun b hb => hS b (g2 b hb))) ?_
  intro e w' hq
  cases e with
  | returned v =>
    obtain ⟨imm', T1, T2, q1, q2, q3, q4, q5, q6, q7, q8, q9, q10, q11⟩ := hq
    have hL : ∀ b, SL b → imm' b := fun b hb => q1 b (.inr hb)
    have sameL : ∀ b, SL b → w'.heap[b]? = w.heap[b]? := fun b hb => q9 b (hS b (g1 b hb)) (g3 b hb)
    have sameI : ∀ b, imm b → w'.heap[b]? = w.heap[b]? := fun b hb => q9 b (himm b hb) (fun z => hSi b (g2 b z) hb)
    refine ⟨fun b => imm' b ∧ ¬ SL b, fun b => SL b ∨ T1 b, T2, fun b hb => ⟨q1 b (.inl hb), fun z => hSi b (g1 b z) hb⟩, ?_, CR.ownd r v T2 hr q3, fun b hb hc => hb.elim (fun z => q6 b hc (hL b z)) (fun z => q4 b z hc), fun b hb hc => hb.elim hc.2 (fun z => q5 b z hc.1), fun b hb hc => q6 b hb hc.1, ?_, ?_, ?_, q10, q11⟩
    · exact g5 w' imm' _ T1 sameL sameI (fun b hb => ⟨q1 b (.inl hb), fun z => hSi b (g1 b z) hb⟩) (fun b hb hc => q5 b hb (hL b hc)) q2
    · intro b hb
      have : SL b ∨ (T1 b ∨ T2 b) := by
        rcases hb with (hb | hb) | hb
        · exact .inl hb
        · exact .inr (.inl hb)
        · exact .inr (.inr hb)
      rcases this with hb | hb
      · exact ⟨Nat.lt_of_lt_of_le (hS b (g1 b hb)) q10, .inl (g1 b hb)⟩
      · exact ⟨(q7 b hb).1, (q7 b hb).2.imp (g2 b) id⟩
    · intro b hb
      obtain ⟨h1, h2⟩ := q8 b hb.1
      refine ⟨h1, ?_⟩
      rcases h2 with (h2 | h2) | h2 | h2
      · exact .inl h2
      · exact absurd h2 hb.2
      · exact .inr (.inl (g2 b h2))
      · exact .inr (.inr h2)
    · intro b hb hno
      exact q9 b hb (fun z => hno (g2 b z))
  | panicked _ => exact hq
  | outgrown => exact hq

end
end Go.Vm
/- What the printed texts lean on. -/
namespace Go.Vm
theorem wq {P : Program} {E : TE} {C : Ctx} (hC : C = fN P) (hE : EOk P E) (hm : P.follows .mixedOrders = true) {c : Code} {Q : Ex → St → Prop} {σ : St} {ι ξ : Type} (I : ι → St) (Inv : ι → Prop) (μ : ι → Nat) (X : ξ → Ex) (T : ξ → St) (jM : ξ → Prop) (i0 : ι) (hi : Inv i0) (h0 : ∀ t, t = i0 → Cov σ (I t))
    (rest : ∀ x, jM x → Q (X x) (T x))
    (round : ∀ i (N : St → Prop) (D : Ex → St → Prop), Inv i → (∀ σ' j, Inv j → μ j < μ i → (∀ t, t = j → Cov σ' (I t)) → N σ') → (∀ σ' x, jM x → (∀ t, t = x → Cov σ' (T t)) → D (X x) σ') → (∀ e σ', Q e σ' → D e σ') →
      wpC E C c (fun e σ' => match e with | .normal => N σ' | e => D e σ') (I i)) (hmk : jG c = false) : C.LW c Q σ :=
  vK hC hE hm I Inv μ X T jM i0 hi (h0 i0 rfl) rest (fun i N D hI hN hD hQ => round i N D hI (fun σ' j hj hlt hc => hN σ' j hj hlt (hc j rfl)) (fun σ' x hx hc => hD σ' x hx (hc x rfl)) hQ) hmk
attribute [simp] fz bT aH
@[simp] theorem xk {α β : Type} (l : List α) (f : α → β) : (l.map f).take l.length = l.map f := List.take_of_length_le (by simp)
/-- a result may be let go of: nobody changes it any more -/
theorem am.frz {P : Program} {f : FuncId} {ds ps : List A} {r r' : A} (h : am P f ds ps r) (hr : r' = fz r) : am P f ds ps r' := by
  subst hr
  refine ⟨h.1, fun w imm S vs hv hSi himm hS => ?_⟩
  refine Calls.mono' (h.2 w imm S vs hv hSi himm hS) ?_
  intro e w' hq
  cases e with
  | returned v =>
    obtain ⟨imm', T1, T2, q1, q2, q3, q4, q5, q6, q7, q8, q9, q10, q11⟩ := hq
    refine ⟨fun b => imm' b ∨ T2 b, T1, Set.no, fun b hb => .inl (q1 b hb), ?_, CR.freeze (fun b hb => .inl hb) _ _ _ q3 (fun b hb => .inr hb), fun b _ z => z.elim, fun b hb hc => hc.elim (q5 b hb) (q4 b hb), Set.no_dis _, ?_, ?_, q9, q10, q11⟩
    · exact ae.stable (fun b hb => .inl hb) (fun _ _ => rfl) none none _ _ _ _ trivial (Set.le_refl _) (fun _ _ => rfl) q2
    · intro b hb; exact q7 b (hb.imp id (fun z => z.elim))
    · intro b hb
      rcases hb with hb | hb
      · exact q8 b hb
      · exact ⟨(q7 b (.inr hb)).1, .inr (q7 b (.inr hb)).2⟩
  | panicked _ => exact hq
  | outgrown => exact hq
theorem pG (n : Nat) : (NatCast.natCast n : Int) = (n : Int) := rfl
end Go.Vm
/- Arguments that are read, as data. -/
namespace Go.Vm

def iE (E : TE) : Nat → List (Nat × Nat) → Nat → Bool
  | o, [], n => Nat.beq o n
  | o, (p, u) :: fs, n => if Nat.beq p o then iE E (o + (E.info u).size) fs n else false
/-- pj of numbers, bools, strings, slices and structs of each other -/
def wL (E : TE) (S : List Nat) : Bool := S.all fun t => match (E.info t).td with
  | .int _ => true
  | .bool => true
  | .str => true
  | .slice e => iT e S && !(Nat.beq (E.info e).size 0)
  | .struct fs => fs.all (fun f => iT f.2 S) && iE E 0 fs (E.info t).size
  | _ => false

def ShF (R : Nat → List A → Prop) : List (Nat × Nat) → List A → Prop
  | [], cs => cs = []
  | (_, u) :: fs, cs => ∃ p q, cs = p ++ q ∧ R u p ∧ ShF R fs q
def Sh (E : TE) : Nat → Nat → List A → Prop
  | 0, _, _ => False
  | n + 1, t, cs => match (E.info t).td with
    | .int k => ∃ m, cs = [.lit (.int k m)] ∧ (Lit.int k m).wf = true
    | .bool => ∃ b, cs = [.lit (.bool b)]
    | .str => ∃ s : ByteArray, cs = [.lit (.string s)] ∧ s.size ≤ reachBytes
    | .slice e => ∃ rows : Rows, cs = [.tree rows] ∧ rows.length * (E.info e).bytes ≤ reachBytes ∧ ∀ r ∈ rows, Sh E n e r
    | .struct fs => ShF (Sh E n) fs cs
    | _ => False

section
variable {H : Type} {enc : TypeId × Value → H} {P : Program} {E : TE} {w : World}

theorem np {α : Type} {Q : Nat → α → Prop} : ∀ (n : Nat), (∀ i, i < n → ∃ x, Q i x) → ∃ xs : List α, xs.length = n ∧ ∀ i x, xs[i]? = some x → Q i x
  | 0, _ => ⟨[], rfl, by simp⟩
  | n + 1, h => by
    obtain ⟨xs, hl, hx⟩ := np n (fun i hi => h i (by omega))
    obtain ⟨x, hq⟩ := h n (by omega)
    refine ⟨xs ++ [x], by simp [hl], fun i y hy => ?_⟩
    rw [List.getElem?_append] at hy
    split at hy
    · exact hx i y hy
    · rename_i hi
      have : i = n := by
        rcases Nat.lt_or_ge (i - xs.length) 1 with h1 | h1
        · omega
        · rw [List.getElem?_eq_none (by simpa using h1)] at hy; cases hy
      subst this
      rw [hl] at hy
      simp at hy
      subst hy; exact hq

theorem tK {b k : Nat} {imm : Set} : ∀ (rows : Rows) (o : Nat), (∀ i r, rows[i]? = some r → r.length = k ∧ ag w imm none r b (o + i * k) Set.no) → ap w imm none rows b o k Set.no
  | [], _, _ => by simp only [ap]
  | r :: rs, o, h => by
    simp only [ap]
    obtain ⟨h1, h2⟩ := h 0 r rfl
    refine ⟨Set.no, Set.no, h1, by simpa using h2, tK rs (o + k) (fun i q hq => ?_), Set.le_refl _, Set.le_refl _, Set.no_dis _⟩
    obtain ⟨g1, g2⟩ := h (i + 1) q (by simpa using hq)
    refine ⟨g1, ?_⟩
    rw [show o + k + i * k = o + (i + 1) * k by rw [Nat.add_mul]; omega]
    exact g2

theorem kx {e : TypeId} : ∀ {ds : List (DataW H)} {i : Nat} {d : DataW H}, ds[i]? = some d → ∀ n ∈ d.weights P e, n ∈ DataW.weightsAll P e ds
  | d0 :: ds, 0, d, h, n, hn => by simp at h; subst h; simp [DataW.weightsAll, hn]
  | d0 :: ds, i + 1, d, h, n, hn => by simp at h; simp [DataW.weightsAll, kx h n hn]
  | [], _, _, h, _, _ => by simp at h

theorem ae.app {imm : Set} : ∀ {cs ds : List A} {vs us : List Value}, ae w imm none cs vs Set.no → ae w imm none ds us Set.no → ae w imm none (cs ++ ds) (vs ++ us) Set.no :=
  fun h1 h2 => ae.append h1 h2

theorem mV (hE : EOk P E) {S : List Nat} (hS : wL E S = true) : ∀ (fuel t : Nat) (cs : List Value) (x : DataW H × List MemPlace), t ∈ S → DataW.trod enc P w 0 (fun _ => true) true fuel t cs = some x →
    (∀ n ∈ x.1.weights P t, n ≤ reachBytes) → ∃ as, Sh E fuel t as ∧ ae w (fun b => b < w.heap.size) none as cs Set.no
  | 0, t, cs, x, _, h, _ => by simp [DataW.trod] at h
  | fuel + 1, t, cs, x, ht, h, hw => by
    have hs := List.all_eq_true.1 hS t ht
    have hone : ∀ v u, CR w (fun b => b < w.heap.size) none v u Set.no → ae w (fun b => b < w.heap.size) none [v] [u] Set.no := fun v u h => ae.of_one h
    cases htd : (E.info t).td with
    | int k =>
      obtain ⟨i, d, z, _, _, _, hd, htd', _⟩ := hE t (.inr (by rw [htd]; rfl))
      rw [htd] at htd'
      cases d <;> simp only [cM] at htd'
      rw [htd'] at hd
      obtain ⟨n, rfl, rfl, hwf⟩ := DataW.trod_int hd h
      exact ⟨[.lit (.int k n)], by simp only [Sh, htd]; exact ⟨n, rfl, hwf⟩, hone _ _ (by simp only [CR])⟩
    | bool =>
      obtain ⟨i, d, z, _, _, _, hd, htd', _⟩ := hE t (.inr (by rw [htd]; rfl))
      rw [htd] at htd'
      cases d <;> simp only [cM] at htd'
      obtain ⟨n, rfl, rfl⟩ := DataW.trod_bool hd h
      exact ⟨[.lit (.bool n)], by simp only [Sh, htd]; exact ⟨n, rfl⟩, hone _ _ (by simp only [CR])⟩
    | str =>
      obtain ⟨i, d, z, _, _, _, hd, htd', _⟩ := hE t (.inr (by rw [htd]; rfl))
      rw [htd] at htd'
      cases d <;> simp only [cM] at htd'
      obtain ⟨s, rfl, rfl, _⟩ := DataW.trod_string hd h
      have hsz : s.size ≤ reachBytes := by
        have h0 := hw s.data.toList.length (List.mem_singleton.2 rfl)
        rw [Array.length_toList] at h0
        exact h0
      exact ⟨[.lit (.string s)], by simp only [Sh, htd]; exact ⟨s, rfl, hsz⟩, hone _ _ (by simp only [CR])⟩
    | slice e =>
      rw [htd] at hs
      simp only [Bool.and_eq_true, lu, Bool.not_eq_true'] at hs
      obtain ⟨he, hz⟩ := hs
      obtain ⟨i, d, z, _, _, _, hd, htd', _⟩ := hE t (.inr (by rw [htd]; rfl))
      rw [htd] at htd'
      cases d <;> simp only [cM] at htd'
      rename_i e'
      subst htd'
      have hz' : (E.info e').size ≠ 0 := by intro h; rw [h] at hz; simp at hz
      obtain ⟨ie, de, ze, hie, hsz, hby, _⟩ := hE e' (.inl hz')
      have hco : P.cellsOf e' = (E.info e').size := by simp [Program.cellsOf, hie, hsz]
      have hbo : P.bytesOf e' = (E.info e').bytes := by simp [Program.bytesOf, hie, hby]
      rcases DataW.trod_slice hd h with ⟨rfl, rfl⟩ | ⟨a, len, cap, elems, rest, n, hfuel, rfl, rfl, _, hlc, _, hel, hget, _, _⟩
      · exact ⟨[.tree []], by simp only [Sh, htd]; exact ⟨[], rfl, by simp [reachBytes], by simp⟩, hone _ _ (by simp only [CR]; exact ⟨none, 0, by simp, Nat.le_refl _, .inl trivial⟩)⟩
      · obtain rfl : fuel = n := by omega
        have hwt : ∀ m, m ∈ (elems.map (·.1)).length * 1 :: [] → True := fun _ _ => trivial
        have hwhole : (elems.length + rest.length) * P.bytesOf e' ≤ reachBytes := hw _ (by simp [DataW.weights, hd])
        have hq : ∀ i, i < len → ∃ row : List A, Sh E fuel e' row ∧ ∃ vs : List Value, w.cells? 0 (a.add (i * P.cellsOf e')) (P.cellsOf e') = some vs ∧ ae w (fun b => b < w.heap.size) none row vs Set.no := by
          intro i hi
          have hg := hget i hi
          have hlt : i < elems.length := by omega
          rw [List.getElem?_eq_getElem hlt] at hg
          obtain ⟨vs, hvs, hg⟩ := Option.bind_eq_some_iff.1 hg
          obtain ⟨row, h1, h2⟩ := mV hE hS fuel e' vs _ he hg (fun m hm => hw m (by
            simp only [DataW.weights, hd, List.mem_cons, List.mem_append]
            right; left
            exact kx (i := i) (d := elems[i].1) (by simp [hlt]) m hm))
          exact ⟨row, h1, vs, hvs, h2⟩
        obtain ⟨rows, hrl, hrows⟩ := np len hq
        refine ⟨[.tree rows], ?_, hone _ _ ?_⟩
        · simp only [Sh, htd]
          refine ⟨rows, rfl, ?_, fun r hr => ?_⟩
          · rw [hrl, ← hel, ← hbo]
            exact Nat.le_trans (Nat.mul_le_mul_right _ (by omega)) hwhole
          · obtain ⟨i, hi⟩ := List.mem_iff_getElem?.1 hr
            exact (hrows i r hi).1
        · simp only [CR]
          refine ⟨some a, cap, by rw [hrl], by omega, ?_⟩
          rcases Nat.eq_zero_or_pos len with h0 | hpos
          · left; exact List.eq_nil_of_length_eq_zero (by omega)
          · right
            obtain ⟨r0, hr0⟩ : ∃ r, rows[0]? = some r := ⟨rows[0], by simp⟩
            obtain ⟨_, vs0, hvs0, _⟩ := hrows 0 r0 hr0
            obtain ⟨_, hl0, hc0⟩ := World.cells?_some hvs0
            have hu : ∃ u, w.cell? a = some u := by
              have h00 := hc0 0 (by rw [hco]; exact Nat.pos_of_ne_zero hz')
              rw [show (a.add (0 * P.cellsOf e')).add 0 = a by simp [Addr.add], List.getElem?_eq_getElem (by rw [hl0, hco]; exact Nat.pos_of_ne_zero hz')] at h00
              exact ⟨_, h00⟩
            obtain ⟨u, hu⟩ := hu
            have hspot : a.spot = none ∧ a.block < w.heap.size := by
              unfold World.cell? at hu
              split at hu
              · rename_i c q r hc
                split at hu
                · cases hu
                · rename_i hsp
                  refine ⟨by simpa using hsp, ?_⟩
                  rcases Nat.lt_or_ge a.block w.heap.size with h1 | h1
                  · exact h1
                  · rw [Array.getElem?_eq_none h1] at hc; cases hc
              · cases hu
            obtain ⟨bb, oo, sp⟩ := a
            simp only at hspot
            obtain ⟨rfl, hlt⟩ := hspot
            refine ⟨bb, oo, (E.info e').size, rfl, hlt, tK rows oo fun i r hi => ?_⟩
            obtain ⟨_, vs, hvs, hv⟩ := hrows i r hi
            obtain ⟨_, hl, hc⟩ := World.cells?_some hvs
            refine ⟨by rw [← hv.length, hl, hco], ag.of_vals hv fun j hj => ?_⟩
            rw [← hc j (by omega), hco, Addr.add_mk, Addr.add_mk]
    | struct fs =>
      rw [htd] at hs
      simp only [Bool.and_eq_true] at hs
      obtain ⟨hfs, hoff⟩ := hs
      obtain ⟨i, d, z, hi, hsz, _, hd, htd', _⟩ := hE t (.inr (by rw [htd]; rfl))
      rw [htd] at htd'
      cases d <;> simp only [cM] at htd'
      rename_i fields
      obtain ⟨xs, n, hfuel, rfl, hlen, hxl, hget⟩ := DataW.trod_struct hd h
      obtain rfl : fuel = n := by omega
      have hct : P.cellsOf t = (E.info t).size := by simp [Program.cellsOf, hi, hsz]
      have key : ∀ (l : List (Nat × Nat)) (j o : Nat), (∀ q, l[q]? = fs[j + q]?) → iE E o l (E.info t).size = true → o ≤ cs.length →
          ∃ as, ShF (Sh E fuel) l as ∧ ae w (fun b => b < w.heap.size) none as (cs.drop o) Set.no := by
        intro l
        induction l with
        | nil =>
          intro j o _ ho _
          simp only [iE] at ho
          have : o = (E.info t).size := Nat.eq_of_beq_eq_true ho
          refine ⟨[], rfl, ?_⟩
          rw [this, ← hct, ← hlen, List.drop_length]
          simp only [ae]
        | cons f l ih =>
          obtain ⟨p, u⟩ := f
          intro j o hq ho hle
          simp only [iE] at ho
          split at ho
          · rename_i hp
            obtain rfl := Nat.eq_of_beq_eq_true hp
            have hj : fs[j]? = some (p, u) := by have := hq 0; simpa using this.symm
            have hu : u ∈ S := by
              have := List.all_eq_true.1 hfs (p, u) (List.mem_of_getElem? hj)
              simpa [lu] using this
            have hfj : ∃ f : Field, fields[j]? = some f ∧ f.offset = p ∧ f.type = u := by
              rw [← htd'] at hj
              simp only [List.getElem?_map, Array.getElem?_toList, Option.map_eq_some_iff] at hj
              obtain ⟨f, hf, e⟩ := hj
              cases e
              exact ⟨f, hf, rfl, rfl⟩
            obtain ⟨f, hf, rfl, rfl⟩ := hfj
            have hg := hget j f hf
            have hjl : j < xs.length := by rw [hxl]; rcases Nat.lt_or_ge j fields.size with h1 | h1; exact h1; rw [Array.getElem?_eq_none h1] at hf; cases hf
            rw [List.getElem?_eq_getElem hjl] at hg
            obtain ⟨as, h1, h2⟩ := mV hE hS fuel f.type _ _ hu hg (fun m hm => hw m (by
              simp only [DataW.weights, hd]
              refine DataW.weights_mem_each (j := j) (t := f.type) (d := xs[j].1) ?_ ?_ m hm
              · simp [hf]
              · simp [hjl]))
            -- how many cells it has
            have hsu : P.cellsOf f.type = (E.info f.type).size := by
              have hs' := List.all_eq_true.1 hS f.type hu
              have hno : eP (E.info f.type).td = false := by cases hq : (E.info f.type).td <;> rw [hq] at hs' <;> first | rfl | cases hs'
              obtain ⟨iu, _, _, hiu, hsu, _⟩ := hE f.type (.inr hno)
              simp [Program.cellsOf, hiu, hsu]
            have hle2 : f.offset + (E.info f.type).size ≤ cs.length := by
              have : ∀ (l : List (Nat × Nat)) (o : Nat), iE E o l (E.info t).size = true → o ≤ (E.info t).size := by
                intro l
                induction l with
                | nil => intro o h; simp only [iE] at h; exact Nat.le_of_eq (Nat.eq_of_beq_eq_true h)
                | cons g l ih => 
                  intro o h
                  simp only [iE] at h
                  split at h
                  · have := ih _ h; omega
                  · cases h
              have := this l _ ho
              rw [hlen, hct]; exact this
            obtain ⟨bs, g1, g2⟩ := ih (j + 1) (f.offset + (E.info f.type).size) (fun q => by have := hq (q + 1); simpa [Nat.add_assoc, Nat.add_comm 1 q] using this) ho hle2
            refine ⟨as ++ bs, ⟨as, bs, rfl, h1, g1⟩, ?_⟩
            have : cs.drop f.offset = (cs.drop f.offset).take (P.cellsOf f.type) ++ cs.drop (f.offset + (E.info f.type).size) := by
              rw [hsu, ← List.drop_drop]
              exact (List.take_append_drop _ _).symm
            rw [this]
            exact ae.app h2 g2
          · cases ho
      obtain ⟨as, h1, h2⟩ := key fs 0 0 (fun q => by simp) hoff (Nat.zero_le _)
      exact ⟨as, by simp only [Sh, htd]; exact h1, by simpa using h2⟩
    | ptr e => rw [htd] at hs; cases hs
    | other => rw [htd] at hs; cases hs

theorem sk {α : Type} {c : α → List A} {W : α → Prop} : ∀ {rows : Rows}, (∀ r ∈ rows, ∃ x, r = c x ∧ W x) → ∃ l : List α, rows = l.map c ∧ ∀ x ∈ l, W x
  | [], _ => ⟨[], rfl, by simp⟩
  | r :: rs, h => by
    obtain ⟨x, e, w⟩ := h r (by simp)
    obtain ⟨l, e2, w2⟩ := sk (rows := rs) (fun q hq => h q (List.mem_cons_of_mem _ hq))
    refine ⟨x :: l, by rw [e, e2]; rfl, fun y hy => ?_⟩
    rcases List.mem_cons.1 hy with hy | hy
    · rw [hy]; exact w
    · exact w2 y hy
end
end Go.Vm
/- Short forms for printed texts. -/
namespace Go.Vm
abbrev iA (n : Int) : A := .lit (.int .i64 n)
abbrev bA (b : Bool) : A := .lit (.bool b)
abbrev sA (s : ByteArray) : A := .lit (.string s)
abbrev tA (r : Rows) : A := .tree r
abbrev oA (k : Nat) (r : Rows) : A := .inl k r
abbrev hA : A := .hole
/-- a function by its code -/
theorem wX {P : Program} {E : TE} (hE : EOk P E) (hm : P.follows .mixedOrders = true) {f : FuncId} {fn : Func} {ts : List (Nat × Option Nat)} {rm : List Mode} {pm : List Mode} {ds post : List A} {r : A} (hf : P.funcs[f]? = some fn)
    (hok : l9 fn ds.length ts = true) (hres : fn.results.toList = ts.map resVar)
    (h : ∀ Fn LW IN len cast toNat wrap add sub mul bin lt eq At set part app fz rep nadd nmax ssize sext sget scat seq slt Wide Flat Ones Room (r' : A) (post' : List A), (⟨Fn, LW, IN, len, cast, toNat, wrap, add, sub, mul, bin, lt, eq, At, set, part, app, fz, rep, nadd, nmax, ssize, sext, sget, scat, seq, slt, Wide, Flat, Ones, Room⟩ : Ctx) = fN P → (∀ f ds ds' post r, am P f ds' post r → ds = ds' → Fn f ds post r) → r' = r → post' = post →
      rn E ⟨Fn, LW, IN, len, cast, toNat, wrap, add, sub, mul, bin, lt, eq, At, set, part, app, fz, rep, nadd, nmax, ssize, sext, sget, scat, seq, slt, Wide, Flat, Ones, Room⟩ (fn.body.getD .skip) ts rm ((List.range ds.length).map (1000000 + ·)) pm ds post' r') : am P f ds post r :=
  w6 hE hm (ts := ts) (rm := rm) (pm := pm) hf hok hres rfl fun Fn LW IN len cast toNat wrap add sub mul bin lt eq At set part app fz rep nadd nmax ssize sext sget scat seq slt Wide Flat Ones Room r' post' hC hF hr hp =>
    h Fn LW IN len cast toNat wrap add sub mul bin lt eq At set part app fz rep nadd nmax ssize sext sget scat seq slt Wide Flat Ones Room r' post' hC (fun f ds ds' post r hw e => hF f ds ds' post post r hw e rfl) hr hp
/-- runs of one number, once each -/
def uniq : List Int → List Int
  | [] => []
  | [x] => [x]
  | x :: y :: l => if x = y then uniq (y :: l) else x :: uniq (y :: l)
@[simp] theorem mnot (b : Bool) : (cond.match_1 (fun _ => Bool) b (fun _ => false) (fun _ => true)) = !b := by cases b <;> rfl
@[simp] theorem fzm (l : Rows) : (aH.match_1 (fun _ => Rows) l (fun _ => []) (fun r rs => bT r :: aH rs)) = aH l := by cases l <;> rfl
@[simp] theorem tU : ∀ (l : Rows) (i : Nat) (r : List A), aH (l.set i r) = (aH l).set i (bT r)
  | [], _, _ => by simp [aH]
  | _ :: _, 0, _ => by simp [aH]
  | _ :: l, i + 1, r => by simp [aH, tU l i r]
@[simp] theorem ul : ∀ (l l' : Rows), aH (l ++ l') = aH l ++ aH l'
  | [], _ => by simp [aH]
  | _ :: l, l' => by simp [aH, ul l l']
@[simp] theorem xj {α β : Type} (l : List α) (f : α → β) (i : Nat) (r : β) : ((l.map f).set i r).take l.length = (l.map f).set i r := List.take_of_length_le (by simp)
/-- a test, both ways -/
theorem bcs {t : Bool} {X Y : Prop} (h1 : t = true → X) (h2 : t = false → Y) : (match (generalizing := false) t with | true => X | false => Y) := by
  cases t
  · exact h2 rfl
  · exact h1 rfl
theorem ifT {α : Type} {c : Prop} [Decidable c] {x y : Option α} {r : α} {t : Bool} (hh : (if c then x else y) = some r) (f : t = true)
    (k : t = true → c := by intro f; cases hC; cases hQ; first | exact of_decide_eq_true f | exact eq_of_beq f | exact f | (simp at f ⊢; first | done | with_reducible omega | exact f)) : x = some r := by
  rw [if_pos (k f)] at hh; exact hh
theorem ifF {α : Type} {c : Prop} [Decidable c] {x y : Option α} {r : α} {t : Bool} (hh : (if c then x else y) = some r) (f : t = false)
    (k : t = false → ¬ c := by intro f; cases hC; cases hQ; first | exact of_decide_eq_false f | exact ne_of_beq_false f | exact Bool.eq_false_iff.1 f | (simp at f ⊢; first | done | with_reducible omega | exact f)) : y = some r := by
  rw [if_neg (k f)] at hh; exact hh
/-- a gy from below -/
theorem Nb {t : Bool} {c : Prop} (h : c) (k : c → t = false := by intro h; cases hC; cases hQ; exact decide_eq_false (Int.not_lt.2 (by first | with_reducible exact h | with_reducible omega | (simp; done) | (simp; with_reducible omega) | (simp at h ⊢; with_reducible omega) | (simp at h ⊢; exact h) | (simp at h ⊢; simp only [pG] at *; with_reducible omega)))) : t = false := k h
/-- a gy from above -/
theorem Mb {t : Bool} {c : Prop} (h : c) (k : c → t = true := by intro h; cases hC; cases hQ; exact decide_eq_true (by first | with_reducible exact h | with_reducible omega | (simp; done) | (simp; with_reducible omega) | (simp at h ⊢; with_reducible omega) | (simp at h ⊢; exact h) | (simp at h ⊢; simp only [pG] at *; with_reducible omega))) : t = true := k h
/-- what is wanted, from what is known -/
theorem Wb {c g : Prop} (h : c) (k : c → g := by intro h; cases hC; cases hQ; first | with_reducible exact h | (simp; done) | (simp at h ⊢; with_reducible exact h) | (simp; with_reducible omega) | (simp at h ⊢; with_reducible omega) | (simp at h ⊢; exact h) | (simp at h ⊢; simp only [pG] at *; with_reducible omega)) : g := k h
/-- a row that was read -/
theorem Gb {α : Type} {l : List α} {i : Nat} {e : α} {g : Prop} (h : l[i]? = some e) (k : l[i]? = some e → g := by intro h; cases hC; cases hQ; first | (simp [h]; done) | (simp at h ⊢; simp [h]; done) | (have q := congrArg (Option.map fun x => [A.lit (.int .i64 x)]) h; rw [← List.getElem?_map] at q; simpa [List.map] using q) | (have q := congrArg (Option.map c_Int) h; rw [← List.getElem?_map] at q; simpa using q) | (have q := congrArg (Option.map c_GOcc) h; rw [← List.getElem?_map] at q; simpa using q) | (have q := congrArg (Option.map c_GOccO) h; rw [← List.getElem?_map] at q; simpa using q) | (have q := congrArg (Option.map c_GEv) h; rw [← List.getElem?_map] at q; simpa using q) | (have q := congrArg (Option.map c_GEx) h; rw [← List.getElem?_map] at q; simpa using q) | (have q := congrArg (Option.map gU) h; rw [← List.getElem?_map] at q; simpa using q) | (have q := congrArg (Option.map c_Bool) h; rw [← List.getElem?_map] at q; simpa using q)) : g := k h
theorem Gb2 {α : Type} {l : List α} {i : Nat} {e : α} {c g : Prop} (h : l[i]? = some e) (h2 : c) (k : l[i]? = some e → c → g := by intro h h2; cases hC; cases hQ; first | (simp [h2]; done) | (simp [h, h2]; done)) : g := k h h2
theorem Zb {g : Prop} (k : g := by cases hC; cases hQ; (repeat' apply And.intro) <;> first | trivial | (with_reducible rfl) | (simp; done) | rfl | (simp <;> first | rfl | with_reducible omega | grind)) : g := k
theorem Ob {g : Prop} (k : g := by cases hC; cases hQ; first | (simp; done) | (simp; first | with_reducible omega | (simp only [pG] at *; with_reducible omega))) : g := k
/-- of all rows -/
theorem Ab {g : Prop} (k : g := by cases hC; cases hQ; first | (simp [plain, ef]; done) | (simp [plain, ef]; intro r hr; have qm := List.mem_of_mem_drop (List.mem_of_mem_take hr); simp at qm; obtain ⟨a, _, rfl⟩ := qm; simp [plain, ef])) : g := k
theorem Eb {g : Prop} (k : g := by subst hr hp; cases hh; cases hC; cases hQ; (repeat' apply And.intro) <;> first | trivial | (with_reducible rfl) | (simp; done) | rfl | (simp <;> first | rfl | with_reducible omega | grind)) : g := k
theorem J0 {g : Prop} (k : g := by cases hC; cases hQ; (repeat' apply And.intro) <;> first | trivial | (with_reducible rfl) | (simp; done) | rfl | (simp <;> first | rfl | with_reducible omega | grind)) : g := k
theorem J1 {g : Prop} (k : g := by subst e; cases hC; cases hQ; (repeat' apply And.intro) <;> first | trivial | (with_reducible rfl) | (simp; done) | rfl | (simp <;> first | rfl | with_reducible omega | grind)) : g := k
theorem J2 {g : Prop} (k : g := by simp only [Prod.mk.injEq] at e; obtain ⟨rfl, rfl⟩ := e; cases hC; cases hQ; (repeat' apply And.intro) <;> first | trivial | (with_reducible rfl) | (simp; done) | rfl | (simp <;> first | rfl | with_reducible omega | grind)) : g := k
theorem J3 {g : Prop} (k : g := by simp only [Prod.mk.injEq] at e; obtain ⟨rfl, rfl, rfl⟩ := e; cases hC; cases hQ; (repeat' apply And.intro) <;> first | trivial | (with_reducible rfl) | (simp; done) | rfl | (simp <;> first | rfl | with_reducible omega | grind)) : g := k
theorem J4 {g : Prop} (k : g := by simp only [Prod.mk.injEq] at e; obtain ⟨rfl, rfl, rfl, rfl⟩ := e; cases hC; cases hQ; (repeat' apply And.intro) <;> first | trivial | (with_reducible rfl) | (simp; done) | rfl | (simp <;> first | rfl | with_reducible omega | grind)) : g := k
theorem J5 {g : Prop} (k : g := by simp only [Prod.mk.injEq] at e; obtain ⟨rfl, rfl, rfl, rfl, rfl⟩ := e; cases hC; cases hQ; (repeat' apply And.intro) <;> first | trivial | (with_reducible rfl) | (simp; done) | rfl | (simp <;> first | rfl | with_reducible omega | grind)) : g := k
theorem J6 {g : Prop} (k : g := by simp only [Prod.mk.injEq] at e; obtain ⟨rfl, rfl, rfl, rfl, rfl, rfl⟩ := e; cases hC; cases hQ; (repeat' apply And.intro) <;> first | trivial | (with_reducible rfl) | (simp; done) | rfl | (simp <;> first | rfl | with_reducible omega | grind)) : g := k
theorem J7 {g : Prop} (k : g := by simp only [Prod.mk.injEq] at e; obtain ⟨rfl, rfl, rfl, rfl, rfl, rfl, rfl⟩ := e; cases hC; cases hQ; (repeat' apply And.intro) <;> first | trivial | (with_reducible rfl) | (simp; done) | rfl | (simp <;> first | rfl | with_reducible omega | grind)) : g := k
/-- an atom, from a test that is known -/
theorem Tb {c : Prop} {g : Prop} (h : c) (k : c → g := by intro h; cases hC; cases hQ; first | exact decide_eq_true h | exact beq_iff_eq.2 h | exact h | (simp; done) | (simp; with_reducible omega) | (simp at h ⊢; with_reducible omega) | (simp at h ⊢; exact h) | (simp at h ⊢; simp only [pG] at *; with_reducible omega)) : g := k h
theorem Fb {c : Prop} {g : Prop} (h : ¬ c) (k : ¬ c → g := by intro h; cases hC; cases hQ; first | exact decide_eq_false h | exact beq_false_of_ne h | exact Bool.eq_false_iff.2 h | (simp; done) | (simp; with_reducible omega) | (simp at h ⊢; with_reducible omega) | (simp at h ⊢; exact h) | (simp at h ⊢; simp only [pG] at *; with_reducible omega)) : g := k h
/-- a call -/
theorem ac {P : Program} {Fn : FuncId → List A → List A → A → Prop} (hF : ∀ f ds ds' post r, am P f ds' post r → ds = ds' → Fn f ds post r) {K : List A → A → Prop} {f : FuncId} {ds ds' post : List A} {r : A} (h : am P f ds' post r) (k : K post r)
    (e : ds = ds' := by cases hC; cases hQ; simp) : ∃ post r, Fn f ds post r ∧ K post r := ⟨post, r, hF f ds ds' post r h e, k⟩
/-- a loop whose rounds are those of a plain function -/
theorem aA {P : Program} {E : TE} {C : Ctx} (hC : C = fN P) (hE : EOk P E) (hm : P.follows .mixedOrders = true) {c : Code} {Q : Ex → St → Prop} {σ : St} {ι ξ ρ : Type} (L : Nat → ι → Option ρ) (I : ι → St) (T : ξ → St) (G : ξ → ρ) (X : Ex) {n0 : Nat} {i0 : ι} {o : ρ}
    (hl : L n0 i0 = some o) (hz : ∀ i, L 0 i = none) (h0 : ∀ t, t = i0 → Cov σ (I t)) (rest : ∀ x, o = G x → Q X (T x))
    (round : ∀ (n : Nat) (i : ι) (N : St → Prop) (D : Ex → St → Prop), L (n + 1) i = some o → (∀ j σ', L n j = some o → (∀ t, t = j → Cov σ' (I t)) → N σ') → (∀ x σ', some (G x) = some o → (∀ t, t = x → Cov σ' (T t)) → D X σ') → (∀ e σ', Q e σ' → D e σ') →
      wpC E C c (fun e σ' => match e with | .normal => N σ' | e => D e σ') (I i)) (hmk : jG c = false := by rfl) : C.LW c Q σ := by
  refine wq hC hE hm (fun s : Nat × ι => I s.2) (fun s => L s.1 s.2 = some o) (fun s => s.1) (fun _ => X) T (fun x => o = G x) (n0, i0) hl (fun t e => h0 t.2 (by rw [e])) rest ?_ hmk
  rintro ⟨n, i⟩ N D hh hN hD hQ
  cases n with
  | zero => exact absurd ((hz i).symm.trans hh) (by simp)
  | succ n =>
    exact round n i N D hh (fun j σ' h hc => hN σ' (n, j) h (Nat.lt_succ_self _) fun t e => by rw [e]; exact hc j rfl) (fun x σ' h hc => hD σ' x (by simpa using h.symm) hc) hQ

end Go.Vm
/- Calls that are followed into the function's code: its frame stands beside the caller's. -/
namespace Go.Vm
def oh : Nat → List A → List (Nat × A)
  | _, [] => []
  | i, a :: as => (i, a) :: oh (i + 1) as
def iH : List (Nat × A) → List (Nat × A)
  | [] => []
  | (t, a) :: l => (t + 2000000, a) :: iH l
/-- the callee's frame: what it was handed; the caller's slots lie eb -/
def kQ (σ : St) (as : List A) : St := ⟨oh 0 as ++ iH σ.slots, σ.heap⟩
def fd (d : Option Nat) (t : Nat) : Nat := match d with
  | some d' => cond (Nat.beq t d') 1999999 (t + 2000000)
  | none => t + 2000000
def jb (d : Option Nat) : List (Nat × A) → List (Nat × A)
  | [] => []
  | (t, a) :: l => (fd d t, a) :: jb d l
def wsS (f : Nat → A) : List (Nat × A) → List W
  | [] => []
  | (t, _) :: l => .s t (f t) :: wsS f l
def wsN (f : Nat → Nat → HN) : List (Key × HN) → List W
  | [] => []
  | ((i, j), _) :: l => .n (i, j) (f i j) :: wsN f l
/-- the caller's state once more -/
def rz (σ τ : St) : List W := wsS (lkS τ.slots) σ.slots ++ (wsS (lkS τ.slots) τ.slots ++ (wsN (lkN τ.heap) σ.heap ++ wsN (lkN τ.heap) τ.heap))
theorem kT (f : Nat → A) : ∀ (l : List (Nat × A)) (σ : St) (t : Nat), (lkS (σ.upd (wsS f l)).slots t = f t ∨ (lkS (σ.upd (wsS f l)).slots t = lkS σ.slots t ∧ ∀ x ∈ l, x.1 ≠ t)) ∧ (σ.upd (wsS f l)).heap = σ.heap
  | [], σ, t => ⟨.inr ⟨rfl, fun x hx => by simp at hx⟩, rfl⟩
  | (u, a) :: l, σ, t => by
    obtain ⟨h1, h2⟩ := kT f l (σ.upd1 (.s u (f u))) t
    refine ⟨?_, h2⟩
    show (lkS ((σ.upd1 (.s u (f u))).upd (wsS f l)).slots t = f t ∨ _)
    rcases h1 with h1 | ⟨h1, h3⟩
    · exact .inl h1
    · have e : lkS (σ.upd1 (.s u (f u))).slots t = if t = u then f u else lkS σ.slots t := rfl
      rw [e] at h1
      by_cases c : t = u
      · subst c; rw [if_pos rfl] at h1; exact .inl h1
      · rw [if_neg c] at h1
        refine .inr ⟨h1, fun x hx => ?_⟩
        rcases List.mem_cons.1 hx with rfl | hx
        · exact fun e => c e.symm
        · exact h3 x hx
theorem kz (f : Nat → Nat → HN) : ∀ (l : List (Key × HN)) (σ : St) (κ : Key), (lkN (σ.upd (wsN f l)).heap κ.1 κ.2 = f κ.1 κ.2 ∨ (lkN (σ.upd (wsN f l)).heap κ.1 κ.2 = lkN σ.heap κ.1 κ.2 ∧ ∀ x ∈ l, x.1 ≠ κ)) ∧ (σ.upd (wsN f l)).slots = σ.slots
  | [], σ, κ => ⟨.inr ⟨rfl, fun x hx => by simp at hx⟩, rfl⟩
  | ((i, j), n) :: l, σ, κ => by
    obtain ⟨h1, h2⟩ := kz f l (σ.upd1 (.n (i, j) (f i j))) κ
    refine ⟨?_, h2⟩
    show (lkN ((σ.upd1 (.n (i, j) (f i j))).upd (wsN f l)).heap κ.1 κ.2 = f κ.1 κ.2 ∨ _)
    rcases h1 with h1 | ⟨h1, h3⟩
    · exact .inl h1
    · have e : lkN (σ.upd1 (.n (i, j) (f i j))).heap κ.1 κ.2 = if κ = (i, j) then f i j else lkN σ.heap κ.1 κ.2 := aZ _ _ _ _
      rw [e] at h1
      by_cases c : κ = (i, j)
      · subst c; rw [if_pos rfl] at h1; exact .inl h1
      · rw [if_neg c] at h1
        refine .inr ⟨h1, fun x hx => ?_⟩
        rcases List.mem_cons.1 hx with rfl | hx
        · exact fun e => c e.symm
        · exact h3 x hx
theorem oc : ∀ {l : List (Nat × A)} {t : Nat}, (∀ x ∈ l, x.1 ≠ t) → lkS l t = .hole
  | [], _, _ => rfl
  | (u, a) :: l, t, h => by
    rw [cy, if_neg (fun e => h (u, a) (by simp) e.symm)]
    exact oc fun x hx => h x (by simp [hx])
theorem od : ∀ {l : List (Key × HN)} {κ : Key}, (∀ x ∈ l, x.1 ≠ κ) → lkN l κ.1 κ.2 = .dead 0
  | [], _, _ => rfl
  | (u, n) :: l, κ, h => by
    rw [aZ, if_neg (fun e => h (u, n) (by simp) e.symm)]
    exact od fun x hx => h x (by simp [hx])
theorem uf (σ τ : St) (t : Nat) : lkS (σ.upd (rz σ τ)).slots t = lkS τ.slots t := by
  unfold rz
  rw [ba, ba, ba, (kz _ _ _ (0, 0)).2, (kz _ _ _ (0, 0)).2]
  rcases (kT (lkS τ.slots) τ.slots (σ.upd (wsS (lkS τ.slots) σ.slots)) t).1 with h | ⟨h, h2⟩
  · exact h
  · rw [h]
    rcases (kT (lkS τ.slots) σ.slots σ t).1 with g | ⟨g, g2⟩
    · exact g
    · rw [g, oc g2, oc h2]
theorem vy (σ τ : St) (κ : Key) : lkN (σ.upd (rz σ τ)).heap κ.1 κ.2 = lkN τ.heap κ.1 κ.2 := by
  unfold rz
  rw [ba, ba, ba]
  rcases (kz (lkN τ.heap) τ.heap (((σ.upd (wsS (lkS τ.slots) σ.slots)).upd (wsS (lkS τ.slots) τ.slots)).upd (wsN (lkN τ.heap) σ.heap)) κ).1 with h | ⟨h, h2⟩
  · exact h
  · rw [h]
    rcases (kz (lkN τ.heap) σ.heap ((σ.upd (wsS (lkS τ.slots) σ.slots)).upd (wsS (lkS τ.slots) τ.slots)) κ).1 with g | ⟨g, g2⟩
    · exact g
    · rw [g, (kT _ _ _ 0).2, (kT _ _ _ 0).2, od g2, od h2]
theorem ru : ∀ (as : List A) (i t : Nat) (l : List (Nat × A)), lkS (oh i as ++ l) t = if i ≤ t then (match as[t - i]? with | some a => a | none => lkS l t) else lkS l t
  | [], i, t, l => by simp [oh]
  | a :: as, i, t, l => by
    show lkS ((i, a) :: (oh (i + 1) as ++ l)) t = _
    rw [cy, ru as (i + 1) t l]
    by_cases c : t = i
    · subst c; simp
    · rw [if_neg c]
      by_cases c2 : i ≤ t
      · obtain ⟨q, hq⟩ : ∃ q, t - i = q + 1 := ⟨t - i - 1, by omega⟩
        rw [if_pos (show i + 1 ≤ t by omega), if_pos c2, hq, show t - (i + 1) = q by omega]
        rfl
      · rw [if_neg (by omega), if_neg c2]
theorem jX : ∀ (l : List (Nat × A)) (t : Nat), lkS (iH l) (t + 2000000) = lkS l t
  | [], _ => rfl
  | (u, a) :: l, t => by
    show lkS ((u + 2000000, a) :: iH l) (t + 2000000) = _
    rw [cy, cy, jX l]
    by_cases c : t = u
    · rw [if_pos c, if_pos (by omega)]
    · rw [if_neg c, if_neg (by omega)]
theorem lG : ∀ (l : List (Nat × A)) (t : Nat), t < 2000000 → lkS (iH l) t = .hole
  | [], _, _ => rfl
  | (u, a) :: l, t, h => by
    show lkS ((u + 2000000, a) :: iH l) t = _
    rw [cy, if_neg (by omega), lG l t h]
theorem uX {d : Option Nat} {t u : Nat} (h : fd d t = fd d u) : t = u := by
  unfold fd at h
  cases d with
  | none => dsimp only at h; omega
  | some d' =>
    dsimp only at h
    cases h1 : Nat.beq t d' <;> cases h2 : Nat.beq u d' <;> rw [h1, h2] at h <;> simp only [cond] at h
    · omega
    · omega
    · omega
    · rw [Nat.eq_of_beq_eq_true h1, Nat.eq_of_beq_eq_true h2]
theorem nL (d : Option Nat) : ∀ (l : List (Nat × A)) (t : Nat), lkS (jb d l) (fd d t) = lkS l t
  | [], _ => rfl
  | (u, a) :: l, t => by
    show lkS ((fd d u, a) :: jb d l) (fd d t) = _
    rw [cy, cy, nL d l]
    by_cases c : t = u
    · rw [if_pos c, if_pos (by rw [c])]
    · rw [if_neg c, if_neg (fun e => c (uX e))]
/-- what stands eb the callee's frame -/
def eb (a : Act) (ρ : Env) (us : List Value) : List Value := (us ++ List.replicate (1000000 - us.length) undef) ++ ((List.range 1000000).map (fun t => a.tmps.getD t undef) ++ ρ.args)
theorem nG {a : Act} {ρ : Env} {us : List Value} (hu : us.length ≤ 1000000) (t : Nat) : (eb a ρ us).getD (t + 1000000) undef = slotv ρ a t := by
  have len : (us ++ List.replicate (1000000 - us.length) undef).length = 1000000 := by simp; omega
  unfold eb slotv
  rw [List.getD_eq_getElem?_getD, List.getElem?_append_right (by omega), len, show t + 1000000 - 1000000 = t by omega]
  by_cases c : t < 1000000
  · rw [if_pos c, List.getElem?_append_left (by simpa using c), List.getElem?_map, List.getElem?_range c]
    rfl
  · rw [if_neg c, List.getElem?_append_right (by simp; omega), List.length_map, List.length_range, List.getD_eq_getElem?_getD]
theorem uG {a : Act} {ρ : Env} {us : List Value} (hu : us.length ≤ 1000000) : 999999 < (eb a ρ us).length := by
  unfold eb
  simp only [List.length_append, List.length_replicate, List.length_map, List.length_range]
  omega
theorem ae.get {w : World} {imm : Set} {x : Option Lam} : ∀ {as : List A} {us : List Value} {t : Nat} {a : A} {u : Value}, ae w imm x as us Set.no → as[t]? = some a → us[t]? = some u → CR w imm x a u Set.no
  | [], us, t, a, u, _, h, _ => by simp at h
  | c :: as, [], t, a, u, hv, _, _ => by simp only [ae] at hv
  | c :: as, v :: us, t, a, u, hv, ha, hu => by
    simp only [ae] at hv
    obtain ⟨S1, S2, h1, h2, h3, h4, _⟩ := hv
    cases t with
    | zero =>
      simp only [List.getElem?_cons_zero, Option.some.injEq] at ha hu
      subst ha hu
      exact h1.mono h3
    | succ t => exact ae.get (h2.mono h4) (by simpa using ha) (by simpa using hu)
/-- the caller goes on in a state that is said -/
def vF (σ : St) (d : Option Nat) (K : List W → Prop) (τ : St) (r : A) : Prop := ∃ τ1 : St, Cov ⟨(1999999, r) :: τ.slots, τ.heap⟩ ⟨jb d τ1.slots, τ1.heap⟩ ∧ K (rz σ τ1)
theorem rB {P : Program} {E : TE} {C : Ctx} (hC : C = fN P) (hE : EOk P E) (hm : P.follows .mixedOrders = true) {f : FuncId} {fn : Func} {ts : List (Nat × Option Nat)} {d : Option Nat} {as : List A} {σ : St} {K : List W → Prop} (τ0 : St) (Lv : St → A → Prop)
    (hL : ∀ τ r, Lv τ r → ∃ (τ1 : St) (ws : List W), Cov ⟨(1999999, r) :: τ.slots, τ.heap⟩ ⟨jb d τ1.slots, τ1.heap⟩ ∧ K ws ∧ (∀ t, lkS (σ.upd ws).slots t = lkS τ1.slots t) ∧ ∀ κ : Key, lkN (σ.upd ws).heap κ.1 κ.2 = lkN τ1.heap κ.1 κ.2) (hf : P.funcs[f]? = some fn)
    (hok : l9 fn as.length ts = true) (hres : fn.results.toList = ts.map resVar) (c0 : Cov (kQ σ as) τ0)
    (h : wpC E C (fn.body.getD .skip) (fun e τ => match e with
      | .exit _ => False
      | _ => (iZ E ts fun vs => .need (Lv τ (gS vs)) (.done [])).holds τ fun _ => True) τ0) : INg P d f as σ K := by
  subst hC
  unfold l9 at hok
  simp only [Bool.and_eq_true, Bool.not_eq_true'] at hok
  obtain ⟨⟨⟨⟨⟨hname, h2⟩, hcode⟩, h4⟩, h5⟩, h6⟩ := hok
  have hn := Nat.le_of_ble_eq_true h4
  have hds := Nat.le_of_ble_eq_true h5
  have hts : ∀ t ∈ ts, t.1 < 1000000 := fun t ht => by have := List.all_eq_true.1 h6 t ht; simpa [Nat.blt_eq] using this
  have hb := qD h2 (rfl : fn.body.getD .skip = fn.body.getD .skip)
  intro ρ o a w imm Λ F us Q hX hod hd hv hex
  have hvl := hv.length
  have hul : us.length ≤ 1000000 := by omega
  refine .inl ?_
  simp only [Oper.wp, hex ⟨fn, hf, hname, h2⟩, Oper.upon]
  let ρ' : Env := { ρ with n := fn.ntmps, args := eb a ρ us }
  let a' : Act := { tmps := us.toArray ++ Array.replicate (fn.ntmps - us.toArray.size) undef, defers := [] }
  have hslot : ∀ t, CR w imm (some Λ) (lkS (kQ σ as).slots t) (slotv ρ' a' t) Set.no := fun t => by
    unfold kQ
    dsimp only
    rw [ru, if_pos (Nat.zero_le t), Nat.sub_zero]
    by_cases c : t < as.length
    · rw [List.getElem?_eq_getElem c]
      dsimp only
      have e : slotv ρ' a' t = us[t]'(by omega) := by
        unfold slotv
        rw [if_pos (by omega)]
        show (us.toArray ++ Array.replicate (fn.ntmps - us.toArray.size) undef).getD t undef = _
        rw [Array.getD_eq_getD_getElem?, Array.getElem?_append_left (by simp; omega)]
        simp [show t < us.length by omega]
      rw [e]
      exact ae.get hv (List.getElem?_eq_getElem c) (List.getElem?_eq_getElem (by omega))
    · rw [List.getElem?_eq_none (by omega)]
      dsimp only
      by_cases c2 : t < 2000000
      · rw [lG _ _ c2]; simp only [CR]
      · obtain ⟨u, rfl⟩ : ∃ u, t = u + 2000000 := ⟨t - 2000000, by omega⟩
        rw [jX]
        have e : slotv ρ' a' (u + 2000000) = slotv ρ a u := by
          rw [← nG (a := a) (ρ := ρ) hul u]
          show (if u + 2000000 < 1000000 then _ else (eb a ρ us).getD (u + 2000000 - 1000000) undef) = _
          rw [if_neg (by omega), show u + 2000000 - 1000000 = u + 1000000 by omega]
        rw [e]
        exact hX.slots u
  have h0 : aB ρ' (kQ σ as) a' w imm Λ F :=
    { size := by show (us.toArray ++ Array.replicate (fn.ntmps - us.toArray.size) undef).size = fn.ntmps
                 simp; omega
      nlt := hn
      slots := hslot
      nodes := hX.nodes
      dis := hX.dis
      fimm := hX.fimm
      flt := hX.flt
      immlt := hX.immlt
      imm0 := hX.imm0
      keep := hX.keep
      grow := hX.grow
      os := hX.os
      defers := rfl }
  have hw := dO hE hm _ _ τ0 h ρ' a' w hcode (c0 ρ' a' w ⟨imm, Λ, F, h0⟩)
  refine Calls.mono' (calls_of_wp hf hb (R := fun e w' => match e with
    | .returned v => ∃ ws, K ws ∧ Rel ρ (σ.upd ws) (a.put o.dst v) w'
    | _ => False) (wp_mono hw ?_)) ?_
  · intro e a2 w2 hq
    have fin : (∃ τ, (iZ E ts fun vs => Pg.need (Lv τ (gS vs)) (Pg.done [])).holds τ (fun _ => True) ∧ Rel ρ' τ a2 w2) → bodyPost P fn (fun e w' => match e with
        | .returned v => ∃ ws, K ws ∧ Rel ρ (σ.upd ws) (a.put o.dst v) w'
        | _ => False) .ret a2 w2 := by
      rintro ⟨τ, hh, imm2, Λ2, F2, hY⟩
      obtain ⟨rvs, hh1, hrv, hruns⟩ := iz hE hY ts _ hts hh
      obtain ⟨hlv, _⟩ := hh1
      obtain ⟨τ1, ws1, hcov, hK, hsl, hnd⟩ := hL _ _ hlv
      refine ⟨hY.defers, _, ml hres a2.tmps hruns, ws1, hK, ?_⟩
      have hr := tI hrv
      generalize gG (ts.map (ko P w2 a2.tmps)).toArray = v at hr ⊢
      let ρ2 : Env := { ρ' with args := ρ'.args.set 999999 v }
      have hlen : 999999 < ρ'.args.length := uG hul
      have sl : ∀ t, t ≠ 1999999 → slotv ρ2 a2 t = slotv ρ' a2 t := fun t ht => by
        unfold slotv
        by_cases c : t < 1000000
        · rw [if_pos c, if_pos c]
        · rw [if_neg c, if_neg c]
          show (ρ'.args.set 999999 v).getD (t - 1000000) undef = ρ'.args.getD (t - 1000000) undef
          rw [List.getD_eq_getElem?_getD, List.getD_eq_getElem?_getD, List.getElem?_set_ne (by omega)]
      have s9 : slotv ρ2 a2 1999999 = v := by
        unfold slotv
        rw [if_neg (by omega)]
        show (ρ'.args.set 999999 v).getD 999999 undef = v
        rw [List.getD_eq_getElem?_getD, List.getElem?_set_self hlen]
        rfl
      have hZ : aB ρ2 ⟨(1999999, gS rvs) :: τ.slots, τ.heap⟩ a2 w2 imm2 Λ2 F2 :=
        { size := hY.size, nlt := hY.nlt, nodes := hY.nodes, dis := hY.dis, fimm := hY.fimm, flt := hY.flt, immlt := hY.immlt, imm0 := hY.imm0, keep := hY.keep, grow := hY.grow, os := hY.os, defers := hY.defers
          slots := fun t => by
            show CR w2 imm2 (some Λ2) (lkS ((1999999, gS rvs) :: τ.slots) t) _ _
            rw [cy]
            by_cases c : t = 1999999
            · rw [if_pos c, c, s9]; exact hr
            · rw [if_neg c, sl t c]; exact hY.slots t }
      obtain ⟨imm3, Λ3, F3, hV⟩ := hcov ρ2 a2 w2 ⟨imm2, Λ2, F2, hZ⟩
      refine ⟨imm3, Λ3, F3, ?_⟩
      have ip : ∀ t, slotv ρ2 a2 (fd d t) = slotv ρ (a.put o.dst v) t := fun t => by
        rw [hod]
        unfold fd
        have low : ∀ t, slotv ρ2 a2 (t + 2000000) = slotv ρ a t := fun t => by
          rw [sl _ (by omega), ← nG (a := a) (ρ := ρ) hul t]
          show (if t + 2000000 < 1000000 then _ else (eb a ρ us).getD (t + 2000000 - 1000000) undef) = _
          rw [if_neg (by omega), show t + 2000000 - 1000000 = t + 1000000 by omega]
        cases hdd : d with
        | none => exact low t
        | some d' =>
          dsimp only
          have hd' : d' < ρ.n := hd d' (by rw [hod, hdd])
          have hnlt := hX.nlt
          cases hb' : Nat.beq t d' with
          | true =>
            have e := Nat.eq_of_beq_eq_true hb'
            subst e
            show slotv ρ2 a2 1999999 = _
            rw [s9]
            unfold slotv
            rw [if_pos (by omega)]
            simp [Act.put, Array.getD_eq_getD_getElem?, hX.size, hd']
          | false =>
            have e : t ≠ d' := fun e => by rw [e, Nat.beq_refl] at hb'; cases hb'
            show slotv ρ2 a2 (t + 2000000) = _
            rw [low]
            unfold slotv
            by_cases c : t < 1000000
            · rw [if_pos c, if_pos c]
              simp [Act.put, Array.getD_eq_getD_getElem?, Array.getElem?_setIfInBounds_ne (fun x => e x.symm)]
            · rw [if_neg c, if_neg c]
      exact
        { size := by
            have := hX.size
            cases hdd : o.dst with
            | none => exact this
            | some d' => simpa [Act.put] using this
          nlt := hX.nlt
          slots := fun t => by
            rw [hsl, ← ip t]
            have := hV.slots (fd d t)
            rw [show lkS (⟨jb d τ1.slots, τ1.heap⟩ : St).slots (fd d t) = lkS τ1.slots t from nL d _ _] at this
            exact this
          nodes := fun κ => by rw [hnd]; exact hV.nodes κ
          dis := hV.dis
          fimm := hV.fimm
          flt := hV.flt
          immlt := hV.immlt
          imm0 := hV.imm0
          keep := hV.keep
          grow := hV.grow
          os := hV.os
          defers := by
            have := hX.defers
            cases hdd : o.dst with
            | none => exact this
            | some d' => exact this }
    cases e with
    | normal => exact fin hq
    | ret => exact fin hq
    | exit id => obtain ⟨_, h', _⟩ := hq; exact h'.elim
    | _ => exact hq.elim
  · intro e w' hR
    cases e with
    | panicked _ => exact hR.elim
    | outgrown => exact hR.elim
    | returned v => exact hR
theorem u3 {P : Program} {E : TE} {C : Ctx} (hC : C = fN P) (hE : EOk P E) (hm : P.follows .mixedOrders = true) {f : FuncId} {fn : Func} {ts : List (Nat × Option Nat)} {d : Option Nat} {as : List A} {σ : St} {K : List W → Prop} (τ0 : St) (hf : P.funcs[f]? = some fn)
    (hok : l9 fn as.length ts = true) (hres : fn.results.toList = ts.map resVar) (c0 : Cov (kQ σ as) τ0)
    (h : wpC E C (fn.body.getD .skip) (fun e τ => match e with
      | .exit _ => False
      | _ => (iZ E ts fun vs => .need (vF σ d K τ (gS vs)) (.done [])).holds τ fun _ => True) τ0) : C.IN.go d f as σ K := by
  have := rB hC hE hm τ0 (vF σ d K) (fun τ r hl => by
    obtain ⟨τ1, h1, h2⟩ := hl
    exact ⟨τ1, _, h1, h2, uf σ τ1, vy σ τ1⟩) hf hok hres c0 h
  subst hC
  exact this
theorem pQ : ∀ (H l : List (Key × HN)) (κ : Key), (∀ x ∈ H, lkN l x.1.1 x.1.2 = x.2) → lkN (H ++ l) κ.1 κ.2 = lkN l κ.1 κ.2
  | [], _, _, _ => rfl
  | (u, n) :: H, l, κ, h => by
    show lkN ((u, n) :: (H ++ l)) κ.1 κ.2 = _
    rw [aZ]
    by_cases c : κ = u
    · rw [if_pos c, c, h (u, n) (by simp)]
    · rw [if_neg c]
      exact pQ H l κ fun x hx => h x (by simp [hx])
theorem kK (d : Option Nat) : ∀ (l : List (Nat × A)) (t : Nat), (∀ u, t ≠ fd d u) → lkS (jb d l) t = .hole
  | [], _, _ => rfl
  | (u, a) :: l, t, h => by
    show lkS ((fd d u, a) :: jb d l) t = _
    rw [cy, if_neg (h u), kK d l t h]
/-- what is left out is not known -/
theorem sI {σ τ : St} (hs : ∀ t, lkS τ.slots t = lkS σ.slots t ∨ lkS τ.slots t = .hole) (hn : ∀ κ : Key, lkN τ.heap κ.1 κ.2 = lkN σ.heap κ.1 κ.2) : Cov σ τ := by
  rintro ρ a w ⟨imm, Λ, F, h⟩
  refine ⟨imm, Λ, F, { h with slots := fun t => ?_, nodes := fun κ => by rw [hn]; exact h.nodes κ }⟩
  rcases hs t with e | e
  · rw [e]; exact h.slots t
  · rw [e]; simp only [CR]
/-- a call that changes nothing: its code runs with only these nodes known -/
theorem cS {P : Program} {E : TE} {C : Ctx} (hC : C = fN P) (hE : EOk P E) (hm : P.follows .mixedOrders = true) {f : FuncId} {fn : Func} {ts : List (Nat × Option Nat)} {as : List A} {H : List (Key × HN)} {r : A} (hf : P.funcs[f]? = some fn)
    (hok : l9 fn as.length ts = true) (hres : fn.results.toList = ts.map resVar)
    (h : ∀ (S : List (Nat × A)) (N : List (Key × HN)), wpC E C (fn.body.getD .skip) (fun e τ => match e with
      | .exit _ => False
      | _ => (iZ E ts fun vs => .need (gS vs = r ∧ τ.heap = H ++ N ∧ ∀ t, lkS τ.slots (t + 2000000) = lkS S (t + 2000000)) (.done [])).holds τ fun _ => True) ⟨oh 0 as ++ S, H ++ N⟩) : C.IN.ro f as H r := by
  have key : INr P f as H r := fun σ d K hH hK => by
    refine rB hC hE hm ⟨oh 0 as ++ iH σ.slots, H ++ σ.heap⟩ (fun τ r' => r' = r ∧ τ.heap = H ++ σ.heap ∧ ∀ t, lkS τ.slots (t + 2000000) = lkS (iH σ.slots) (t + 2000000)) ?_ hf hok hres ?_ (h _ _)
    · rintro τ r' ⟨rfl, h2, h3⟩
      refine ⟨σ.upd (Vm.put d r'), _, ?_, hK, fun _ => rfl, fun _ => rfl⟩
      have hp : (σ.upd (Vm.put d r')).heap = σ.heap := by cases d <;> rfl
      refine sI (fun t => ?_) (fun κ => ?_)
      · show lkS (jb d (σ.upd (Vm.put d r')).slots) t = lkS ((1999999, r') :: τ.slots) t ∨ _
        by_cases c : ∃ u, t = fd d u
        · obtain ⟨u, rfl⟩ := c
          refine .inl ?_
          rw [nL]
          cases d with
          | none =>
            show lkS σ.slots u = lkS _ (u + 2000000)
            rw [cy, if_neg (by omega), h3, jX]
          | some d' =>
            show lkS ((d', r') :: σ.slots) u = _
            unfold fd
            dsimp only
            rw [cy]
            cases hb : Nat.beq u d' with
            | true => rw [if_pos (Nat.eq_of_beq_eq_true hb)]; show _ = lkS _ 1999999; rw [cy, if_pos rfl]
            | false =>
              rw [if_neg (fun e => by rw [e, Nat.beq_refl] at hb; cases hb)]
              show _ = lkS _ (u + 2000000)
              rw [cy, if_neg (by omega), h3, jX]
        · exact .inr (kK d _ _ fun u e => c ⟨u, e⟩)
      · show lkN (σ.upd (Vm.put d r')).heap κ.1 κ.2 = lkN τ.heap κ.1 κ.2
        rw [hp, h2, pQ H _ _ hH]
    · refine sI (fun t => .inl rfl) (fun κ => ?_)
      show lkN (H ++ σ.heap) κ.1 κ.2 = lkN σ.heap κ.1 κ.2
      exact pQ H _ _ hH
  subst hC
  exact key
end Go.Vm
/- Boxes whose lists are opened, no load standing by. -/
namespace Go.Vm
section
variable {P : Program} {ρ : Env} {σ : St} {a : Act} {w : World} {imm : Set} {Λ : Lam} {F : Key → Set} {K : List W → Prop} {Fn : FuncId → List A → List A → A → Prop} {LW : Code → (Ex → St → Prop) → St → Prop} {IN : InT}
/-- what a box owns becomes nodes of slot d -/
def rp (C : Ctx) (κ : Key) (d : Nat) : Pg := .gn κ fun h => match h with
  | .box g cells => cond (Nat.beq κ.1 d) .fail (d7 C d 0 cells fun ws cs' => .done (.n κ (.box g cs') :: ws))
  | _ => .fail
theorem tX (h : aB ρ σ a w imm Λ F) {κ : Key} {d : Nat} (hh : (rp (aq Fn LW IN) κ d).holds σ K) : ∃ ws, K ws ∧ Rel ρ (σ.upd ws) a w := by
  unfold rp at hh
  obtain ⟨nd, hnd, hN, hh⟩ := h.node hh
  cases nd <;> simp only [Pg.holds] at hh
  rename_i g cells
  by_cases hne : κ.1 = d
  · rw [show Nat.beq κ.1 d = true from Nat.beq_eq.mpr hne] at hh; exact hh.elim
  rw [show Nat.beq κ.1 d = false from Bool.eq_false_iff.2 fun e => hne (Nat.beq_eq.mp e)] at hh
  obtain ⟨ws, cs', Λ', F', τ, r1, r2, r3, _, r5, r6, r7, r8, r9⟩ := gu (post := []) (f := fun _ _ => .fail) (.box g) hne cells [] 0 σ Λ F _ h (by simpa using hnd) (fun _ _ => rfl) hh
  refine ⟨_, r1, imm, Λ', F', r3.congr (fun t => ?_) (fun x => ?_)⟩
  · rw [St.upd, hO r2, r8]; rfl
  · by_cases e : x = κ
    · subst e
      rw [St.upd, ij r2 x hne, r7]
      show lkN ((x, _) :: σ.heap) x.1 x.2 = _
      rw [aZ, if_pos rfl]; simp
    · rw [St.upd, r9 x e]
      refine iJ (p := fun y => y ≠ κ) ws (fun y hy => ?_) x e
      show lkN ((κ, _) :: σ.heap) y.1 y.2 = _
      rw [aZ, if_neg hy]
theorem io {C : Ctx} (hC : C = fN P) {τ : St} (κ : Key) (d : Nat) (hh : (rp C κ d).holds σ fun ws => Cov (σ.upd ws) τ) : Cov σ τ := by
  subst hC
  rintro ρ a w ⟨imm, Λ, F, h⟩
  obtain ⟨ws, hk, hr⟩ := tX h hh
  exact hk ρ a w hr
end
/-- the end of a call that changes nothing -/
theorem Rb {g : Prop} (k : g := by (repeat' apply And.intro) <;> first | trivial | (intro t; simp [Vm.lkS]; done) | rfl) : g := k
end Go.Vm
/- The rest of a row of one's own, when what stood ahead of it is let go of. -/
namespace Go.Vm
section
variable {P : Program} {ρ : Env} {σ : St} {a : Act} {w : World} {imm : Set} {Λ : Lam} {F : Key → Set} {K : List W → Prop} {Fn : FuncId → List A → List A → A → Prop} {LW : Code → (Ex → St → Prop) → St → Prop} {IN : InT}
end
/-- nodes under their own names -/
def idm : List (Key × HN) → List (Key × Key)
  | [] => []
  | (κ, _) :: l => (κ, κ) :: idm l
theorem aj {σ τ : St} (h : wI (idm τ.heap) σ τ) : Cov σ τ := az _ h
end Go.Vm
/- Rows of one's own that are let go of, between regions. -/
namespace Go.Vm
section
variable {P : Program} {ρ : Env} {σ : St} {a : Act} {w : World} {imm : Set} {Λ : Lam} {F : Key → Set} {K : List W → Prop} {Fn : FuncId → List A → List A → A → Prop} {LW : Code → (Ex → St → Prop) → St → Prop} {IN : InT}
theorem aB.freeze (h : aB ρ σ a w imm Λ F) {κ : Key} {g k : Nat} {rows : Rows} (hn : lkN σ.heap κ.1 κ.2 = .arr g k rows) :
    aB ρ (σ.upd [.n κ (.farr g k (aH rows))]) a w (fun b => imm b ∨ F κ b) Λ (up F κ Set.no) := by
  have hi : Set.le imm (fun b => imm b ∨ F κ b) := fun b hb => .inl hb
  have hN := h.nodes κ
  rw [hn] at hN
  refine { size := h.size, nlt := h.nlt, slots := fun t => ?_, nodes := fun x => ?_, dis := fun x y hxy => ?_, fimm := fun x => ?_, flt := fun x b hb => ?_, immlt := fun b hb => ?_, imm0 := Set.le_trans h.imm0 hi, keep := h.keep, grow := h.grow, os := h.os, defers := h.defers }
  · exact CR.stable hi (fun _ _ => rfl) (some Λ) (some Λ) _ _ _ _ (bi?.refl _) (Set.le_refl _) (fun _ _ => rfl) (h.slots t)
  · show NR w _ Λ (Λ x) (lkN ((κ, HN.farr g k (aH rows)) :: σ.heap) x.1 x.2) (up F κ Set.no x)
    rw [aZ]
    by_cases e : x = κ
    · subst e
      rw [if_pos rfl, ax]
      obtain ⟨n1, n2, n3, n4⟩ := hN
      refine ⟨n1, n2, ?_, ?_⟩
      · rw [n3, fa]
      · rcases n4 with ⟨q, rfl⟩ | ⟨b, base, size, S', q, q1, q2, q3, q4, q5, q6⟩
        · exact .inl ⟨q, by simp only [aH]⟩
        · exact .inr ⟨b, base, size, q, .inr q1, ap.freeze hi rows b base k S' q6 (fun y hy => .inr (q3 y hy))⟩
    · rw [if_neg e, aO _ _ e]
      exact NR.stable hi (fun _ _ => rfl) (fun _ _ => rfl) (bi.refl Λ) (h.nodes x)
  · by_cases e : x = κ
    · subst e; rw [ax]; exact Set.no_dis _
    · rw [aO _ _ e]
      by_cases e' : y = κ
      · subst e'; rw [ax]; exact fun _ _ z => z
      · rw [aO _ _ e']; exact h.dis x y hxy
  · by_cases e : x = κ
    · subst e; rw [ax]; exact Set.no_dis _
    · rw [aO _ _ e]
      intro b hb hb2
      rcases hb2 with hb2 | hb2
      · exact h.fimm x b hb hb2
      · exact h.dis x κ e b hb hb2
  · by_cases e : x = κ
    · subst e; rw [ax] at hb; exact hb.elim
    · rw [aO _ _ e] at hb; exact h.flt x b hb
  · rcases hb with hb | hb
    · exact h.immlt b hb
    · have := h.flt κ b hb
      exact ⟨this.1, .inr this.2⟩
end
end Go.Vm
