/- A small evaluator over the code of a program, and that it is sound, second part. -/
import Derived.Test.YtlbnmldopjadoaaGreatVa
import Derived.Laws.BitsLemmas
import Derived.Room.AppendAny
import Derived.Orders
import Derived.Tactics
/- Slices that are written out or made. -/
namespace Go.Vm
section
variable {P : Program} {E : TE} {Fn : FuncId → List A → List A → A → Prop} {LW : Code → (Ex → St → Prop) → St → Prop} {IN : InT} {ρ : Env} {σ : St} {K : List W → Prop} {o : Oper} {a : Act} {w : World} {Q : Exit → Act → World → Prop} {imm : Set} {Λ : Lam} {F : Key → Set}

theorem ow (zs : List Value) : ∀ n : Nat, (List.range (n * zs.length)).map (fun i => zs.toArray[i % zs.toArray.size]!) = (List.replicate n zs).flatten
  | 0 => by simp
  | n + 1 => by
    have ih := ow zs n
    rw [List.replicate_succ', List.flatten_append, ← ih, Nat.add_mul, Nat.one_mul, List.range_add, List.map_append]
    congr 1
    simp only [List.map_map, List.flatten_cons, List.flatten_nil, List.append_nil]
    apply List.ext_getElem
    · simp
    · intro i h1 h2
      simp only [List.length_map, List.length_range] at h1
      simp only [List.getElem_map, List.getElem_range, Function.comp, List.size_toArray]
      rw [Nat.mul_comm, Nat.mul_add_mod, Nat.mod_eq_of_lt h1]
      simp [h1]
theorem vB (zs : List Value) (n m : Nat) (hm : m = n * zs.length) : (Array.range m).map (fun i => zs.toArray[i % zs.toArray.size]!) = ((List.replicate n zs).flatten).toArray := by
  apply Array.ext'
  rw [Array.toList_map, Array.toList_range, hm]
  exact ow zs n

theorem ag.append {x : Option Lam} {b : Nat} : ∀ {cs ds : List A} {p : Nat} {S : Set}, ag w imm x (cs ++ ds) b p S → ∃ S1 S2, ag w imm x cs b p S1 ∧ ag w imm x ds b (p + cs.length) S2 ∧ Set.le S1 S ∧ Set.le S2 S ∧ Set.dis S1 S2
  | [], ds, p, S, h => ⟨Set.no, S, by simp only [ag], by simpa using h, Set.no_le _, Set.le_refl _, Set.no_dis _⟩
  | c :: cs, ds, p, S, h => by
    simp only [List.cons_append, ag] at h
    obtain ⟨v, S1, S2, h1, h2, h3, h4, h5, h6⟩ := h
    obtain ⟨T1, T2, g1, g2, g3, g4, g5⟩ := ag.append h3
    refine ⟨fun y => S1 y ∨ T1 y, T2, ?_, by rw [show p + (c :: cs).length = p + 1 + cs.length by simp; omega]; exact g2, fun y hy => hy.elim (h4 y) (fun z => h5 y (g3 y z)), Set.le_trans g4 h5, fun y hy hz => hy.elim (fun z => h6 y z (g4 y hz)) (fun z => g5 y z hz)⟩
    simp only [ag]
    exact ⟨v, S1, T1, h1, h2, g1, fun y hy => .inl hy, fun y hy => .inr hy, fun y hy hz => h6 y hy (g3 y hz)⟩
theorem ap.of_cells {x : Option Lam} {b k : Nat} : ∀ {rows : Rows} {p : Nat} {S : Set}, (∀ r ∈ rows, r.length = k) → ag w imm x rows.flatten b p S → ap w imm x rows b p k S
  | [], _, _, _, _ => by simp only [ap]
  | r :: rows, p, S, hl, h => by
    rw [List.flatten_cons] at h
    obtain ⟨S1, S2, h1, h2, h3, h4, h5⟩ := h.append
    simp only [ap]
    rw [hl r (by simp)] at h2
    exact ⟨S1, S2, hl r (by simp), h1, ap.of_cells (fun q hq => hl q (by simp [hq])) h2, h3, h4, h5⟩
theorem ag.join {x : Option Lam} {b : Nat} : ∀ {cs ds : List A} {p : Nat} {S1 S2 S : Set}, ag w imm x cs b p S1 → ag w imm x ds b (p + cs.length) S2 → Set.le S1 S → Set.le S2 S → Set.dis S1 S2 → ag w imm x (cs ++ ds) b p S
  | [], ds, p, S1, S2, S, _, h, _, h2, _ => by simpa using h.mono h2
  | c :: cs, ds, p, S1, S2, S, h, h', hS1, hS2, hd => by
    simp only [ag] at h
    obtain ⟨v, T1, T2, g1, g2, g3, g4, g5, g6⟩ := h
    simp only [List.cons_append, ag]
    refine ⟨v, T1, fun y => T2 y ∨ S2 y, g1, g2, ag.join g3 (by rw [show p + 1 + cs.length = p + (c :: cs).length by simp; omega]; exact h') (fun y hy => .inl hy) (fun y hy => .inr hy) (fun y hy hz => hd y (g5 y hy) hz), Set.le_trans g4 hS1, fun y hy => hy.elim (fun z => hS1 y (g5 y z)) (hS2 y), fun y hy hz => hz.elim (g6 y hy) (hd y (g4 y hy))⟩
theorem ap.cells {x : Option Lam} {b k : Nat} : ∀ {rows : Rows} {p : Nat} {S : Set}, ap w imm x rows b p k S → ag w imm x rows.flatten b p S ∧ ∀ r ∈ rows, r.length = k
  | [], _, _, _ => by simp [ag]
  | r :: rows, p, S, h => by
    simp only [ap] at h
    obtain ⟨S1, S2, h1, h2, h3, h4, h5, h6⟩ := h
    obtain ⟨g1, g2⟩ := ap.cells h3
    refine ⟨by rw [List.flatten_cons]; exact ag.join h2 (by rw [h1]; exact g1) h4 h5 h6, fun q hq => ?_⟩
    rcases List.mem_cons.1 hq with rfl | hq
    · exact h1
    · exact g2 q hq
theorem dv {k : Nat} : ∀ {rows : Rows}, (∀ r ∈ rows, r.length = k) → rows.flatten.length = rows.length * k
  | [], _ => by simp
  | r :: rows, h => by
    rw [List.flatten_cons, List.length_append, dv (fun q hq => h q (by simp [hq])), h r (by simp), List.length_cons, Nat.add_mul]; omega

theorem lJ (h : aB ρ σ a w imm Λ F) : ∀ (vs : List (Nat × A)) (tk : List Key) (us : List Value) (f : List W → List (Nat × List A) → Pg), ae w imm (some Λ) (vs.map (·.2)) us Set.no → (mW (aq Fn LW IN) tk vs f).holds σ K →
    ∃ ks ws rs T, (f ws rs).holds σ K ∧ cF Λ ks ws ∧ (∀ x ∈ ks, x ∉ tk) ∧ (∀ b, T b → ∃ x ∈ ks, F x b) ∧ rs.map (·.1) = vs.map (·.1) ∧
      ∃ xs : List (List Value), us.map Value.cells = xs.map List.toArray ∧ ae w imm none (rs.map (·.2)).flatten xs.flatten T ∧ rs.map (fun r => r.2.length) = xs.map List.length
  | [], tk, us, f, hv, hh => by
    cases us with
    | nil => exact ⟨[], [], [], Set.no, hh, cF.nil Λ, by simp, fun _ z => z.elim, rfl, [], rfl, by simp [ae], rfl⟩
    | cons => simp only [List.map_nil, ae] at hv
  | (i, y) :: vs, tk, [], f, hv, hh => by simp only [List.map_cons, ae] at hv
  | (i, y) :: vs, tk, u :: us, f, hv, hh => by
    simp only [List.map_cons, ae] at hv
    obtain ⟨S1, S2, hy, hv, hS1, hS2, _⟩ := hv
    simp only [mW] at hh
    obtain ⟨cs, hcs, hh⟩ := bt hh
    obtain ⟨xs, hxs, hxv, _⟩ := j9 hcs (hy.mono hS1)
    obtain ⟨ks, ws, cs', T, hh, r2, r3, r4, r5, r6⟩ := gV h cs tk xs _ hxv hh
    obtain ⟨ks2, ws2, rs, T2, q1, q2, q3, q4, q5, xss, q6, q7, q8⟩ := lJ h vs (ks.reverse ++ tk) us _ (hv.mono hS2) hh
    have hlen := r2.length
    refine ⟨ks ++ ks2, ws ++ ws2, (i, cs') :: rs, fun b => T b ∨ T2 b, q1, r3.append q2, ?_, ?_, by simp [q5], xs :: xss, by simp [hxs, q6], ?_, by simp [q8, hlen]⟩
    · intro x hx
      rcases List.mem_append.1 hx with hx | hx
      · exact r4 x hx
      · exact fun hm => q3 x hx (List.mem_append_right _ hm)
    · rintro b (hb | hb)
      · obtain ⟨x, hx, hF⟩ := r6 b hb; exact ⟨x, List.mem_append_left _ hx, hF⟩
      · obtain ⟨x, hx, hF⟩ := q4 b hb; exact ⟨x, List.mem_append_right _ hx, hF⟩
    · have hdis : Set.dis T T2 := fun b hb hb2 => by
        obtain ⟨x, hx, hF⟩ := r6 b hb
        obtain ⟨x2, hx2, hF2⟩ := q4 b hb2
        refine h.dis x x2 (fun e => q3 x2 hx2 ?_) b hF hF2
        rw [← e]; simp [hx]
      have join : ∀ {cs : List A} {vs : List Value}, ae w imm none cs vs T → ae w imm none (cs ++ (rs.map (·.2)).flatten) (vs ++ xss.flatten) (fun b => T b ∨ T2 b) := by
        intro cs
        have gen : ∀ (cs : List A) (vs : List Value) (T : Set), Set.dis T T2 → ae w imm none cs vs T → ae w imm none (cs ++ (rs.map (·.2)).flatten) (vs ++ xss.flatten) (fun b => T b ∨ T2 b) := by
          intro cs
          induction cs with
          | nil =>
            intro vs T hd hv
            cases vs with
            | nil => exact q7.mono (fun y hy => .inr hy)
            | cons => simp only [ae] at hv
          | cons c cs ih =>
            intro vs T hd hv
            cases vs with
            | nil => simp only [ae] at hv
            | cons v vs =>
              simp only [ae] at hv
              obtain ⟨U1, U2, g1, g2, g3, g4, g5⟩ := hv
              simp only [List.cons_append, ae]
              exact ⟨U1, _, g1, ih vs U2 (Set.dis_le hd g4 (Set.le_refl _)) g2, fun y hy => .inl (g3 y hy), fun y hy => hy.elim (fun z => .inl (g4 y z)) .inr, fun y hy hz => hz.elim (g5 y hy) (hd y (g3 y hy))⟩
        intro vs hv
        exact gen cs vs T hdis hv
      simp only [List.map_cons, List.flatten_cons]
      exact join r2

theorem ae.split {x : Option Lam} : ∀ {cs ds : List A} {vs us : List Value} {T : Set}, vs.length = cs.length → ae w imm x (cs ++ ds) (vs ++ us) T → ∃ T1 T2, ae w imm x cs vs T1 ∧ ae w imm x ds us T2 ∧ Set.le T1 T ∧ Set.le T2 T ∧ Set.dis T1 T2
  | [], ds, [], us, T, _, h => ⟨Set.no, T, by simp only [ae], by simpa using h, Set.no_le _, Set.le_refl _, Set.no_dis _⟩
  | [], ds, _ :: _, us, T, hl, h => by simp at hl
  | _ :: _, ds, [], us, T, hl, h => by simp at hl
  | c :: cs, ds, v :: vs, us, T, hl, h => by
    simp only [List.cons_append, ae] at h
    obtain ⟨S1, S2, h1, h2, h3, h4, h5⟩ := h
    obtain ⟨T1, T2, g1, g2, g3, g4, g5⟩ := ae.split (by simpa using hl) h2
    refine ⟨fun y => S1 y ∨ T1 y, T2, ?_, g2, fun y hy => hy.elim (h3 y) (fun z => h4 y (g3 y z)), Set.le_trans g4 h4, fun y hy hz => hy.elim (fun z => h5 y z (g4 y hz)) (fun z => g5 y z hz)⟩
    simp only [ae]
    exact ⟨S1, T1, h1, g1, fun y hy => .inl hy, fun y hy => .inr hy, fun y hy hz => h5 y hy (g3 y hz)⟩

theorem w5 {k : Nat} {rows : Rows} {i : Nat} {r : List A} (hl : ∀ q ∈ rows, q.length = k) (hr : r.length = k) (hi : i < rows.length) : lay (i * k) r rows.flatten = some (rows.set i r).flatten := by
  have h1 : rows.flatten = (rows.take i).flatten ++ (rows[i] ++ (rows.drop (i + 1)).flatten) := by
    have := congrArg List.flatten (List.take_append_drop i rows).symm
    rw [List.drop_eq_getElem_cons hi, List.flatten_append, List.flatten_cons] at this
    exact this
  have h2 : (rows.set i r).flatten = (rows.take i).flatten ++ (r ++ (rows.drop (i + 1)).flatten) := by
    rw [List.set_eq_take_append_cons_drop, if_pos hi]
    simp
  have h3 : (rows.take i).flatten.length = i * k := by
    rw [dv (fun q hq => hl q (List.mem_of_mem_take hq)), List.length_take, Nat.min_eq_left (by omega)]
  rw [h1, h2, ← h3]
  exact mu _ _ _ _ (by rw [hr, hl _ (List.getElem_mem hi)])

theorem kG {k : Nat} (hk : k ≠ 0) : ∀ (rs : List (Nat × List A)) (us : List Value) (xs : List (List Value)) (rows rows' : Rows) (zs : List Value) (S T U : Set), us.map Value.cells = xs.map List.toArray → ae w imm none (rs.map (·.2)).flatten xs.flatten T →
    rs.map (fun r => r.2.length) = xs.map List.length → (∀ q ∈ rows, q.length = k) → ae w imm none rows.flatten zs S → Set.le S U → Set.le T U → Set.dis T S → jw k rs rows = some rows' →
    ∃ zs', Instr.fill (fun i => some (i * k, k)) zs.toArray ((rs.map (·.1)).zip us) = some zs'.toArray ∧ ae w imm none rows'.flatten zs' U ∧ (∀ q ∈ rows', q.length = k) ∧ rows'.length = rows.length
  | [], us, xs, rows, rows', zs, S, T, U, _, _, _, hl, hz, hS, _, _, h => by
    simp [jw] at h; subst h
    exact ⟨zs, by simp [Instr.fill], hz.mono hS, hl, rfl⟩
  | (i, r) :: rs, us, xs, rows, rows', zs, S, T, U, hu, hv, hlen, hl, hz, hS, hT, hd, h => by
    cases xs with
    | nil => simp at hlen
    | cons x xs =>
      cases us with
      | nil => simp at hu
      | cons u us =>
        simp only [List.map_cons, List.cons.injEq] at hu hlen
        simp only [List.map_cons, List.flatten_cons] at hv
        obtain ⟨T1, T2, g1, g2, g3, g4, g5⟩ := ae.split hlen.1.symm hv
        simp only [jw] at h
        split at h
        · rename_i hc
          obtain ⟨hr, hi⟩ := hc
          have hlay := w5 hl hr hi
          have hne : r ≠ [] := by intro e; rw [e] at hr; simp at hr; exact hk hr.symm
          rcases iq (i * k) r rows.flatten _ x zs T1 S (fun y => T1 y ∨ S y) (fun y hy => .inl hy) (fun y hy => .inr hy) (Set.dis_le hd g3 (Set.le_refl _)) g1 hz hlay with ⟨r1, r2, r3⟩ | ⟨_, _, e⟩
          · have hl2 : ∀ q ∈ rows.set i r, q.length = k := fun q hq => by
              rcases List.mem_or_eq_of_mem_set hq with hq | rfl
              · exact hl q hq
              · exact hr
            obtain ⟨zs', q1, q2, q3, q4⟩ := kG hk rs us xs (rows.set i r) rows' _ (fun y => T1 y ∨ S y) T2 U hu.2 g2 hlen.2 hl2 r1 (fun y hy => hy.elim (fun z => hT y (g3 y z)) (hS y)) (Set.le_trans g4 hT) (fun y hy hz => hz.elim (fun z => g5 y z hy) (fun z => hd y (g4 y hy) z)) h
            refine ⟨zs', ?_, q2, q3, by rw [q4]; simp⟩
            simp only [List.map_cons, List.zip_cons_cons, Instr.fill, hu.1]
            have e1 : x.toArray.size = k := by have := g1.length; simp; omega
            rw [if_neg (by simp [e1]; simp at e1; omega), qt r3]
            exact q1
          · exact absurd e hne
        · simp at h

theorem kJ (zs : List Value) : ∀ n : Nat, ae w imm none ((List.replicate n (zs.map A.lit)).flatten) ((List.replicate n zs).flatten) Set.no := by
  have one : ∀ (l : List Value) (cs : List A) (vs : List Value), ae w imm none cs vs Set.no → ae w imm none (l.map A.lit ++ cs) (l ++ vs) Set.no := by
    intro l
    induction l with
    | nil => intro cs vs h; exact h
    | cons v l ih => intro cs vs h; simp only [List.map_cons, List.cons_append, ae]; exact ⟨Set.no, Set.no, by simp only [CR], ih cs vs h, Set.le_refl _, Set.le_refl _, Set.no_dis _⟩
  intro n
  induction n with
  | zero => simp [ae]
  | succ n ih => rw [List.replicate_succ, List.replicate_succ, List.flatten_cons, List.flatten_cons]; exact one zs _ _ ih

/-- a new array becomes a node, and its slice a slot's value -/
theorem og {w1 : World} (h : aB ρ σ a w imm Λ F) (hd : ∀ t, o.dst = some t → t < ρ.n) {d : Nat} (hod : o.dst = some d) {e n cap k : Nat} {zs : List Value} {rows : Rows} {T : Set} (hT : ∀ κ', Set.dis T (F κ')) (hTi : Set.dis T imm) (hTlt : ∀ b, T b → b < w.heap.size ∧ (ρ.own0 b ∨ ρ.w0.heap.size ≤ b))
    {c : Array Value} (hc : ∀ j, j < zs.length → c[j]? = zs[j]?) (hv : ae w imm none rows.flatten zs T) (hl : ∀ q ∈ rows, q.length = k) (hn : n = rows.length) (hcap : n ≤ cap) (hsz : cap * k ≤ c.size) {ws : List W} {g : Nat} (hg : g = (lkN σ.heap d 0).gen + 1)
    (hrun : (execOp a.eval o).run P w1 = .ok (.value (.slice (some ⟨w.heap.size, 0, none⟩) n cap)) { w with heap := w.heap.push (.cells c e) }) (hσ : ∀ K', K' = K → K (ws ++ [.n (d, 0) (.arr g k rows), .s d (.ref (d, 0) g 0 n)])) {σ0 : St} (hσ0 : σ = σ0.upd ws) :
    o.wp P a w1 (fun a' w' => ∃ ws, K ws ∧ Rel ρ (σ0.upd ws) a' w') Q := by
  have hzl := hv.length
  have hfl := dv hl
  have hmk : rows.length * k ≤ cap * k := Nat.mul_le_mul_right k (by omega)
  have hb : ¬ T w.heap.size := fun z => by have := (hTlt _ z).1; omega
  obtain ⟨Λ', F', hr, hΛ⟩ := h.newnode (κ := (d, 0)) (n := .arr g k rows) (i := ⟨g, .at_ w.heap.size 0 c.size, k, rows.length⟩) (c := c) (e := e) (T := T) hg hT hTi hTlt (by
    refine ⟨rfl, rfl, rfl, .inr ⟨w.heap.size, 0, c.size, T, rfl, .inl rfl, hb, fun y hy => .inr hy, ⟨c, e, 0, 0, lA, rfl, Nat.le_refl _⟩, by omega, ?_⟩⟩
    refine ap.of_cells hl (ag.of_vals (vs := zs) ?_ (fun j hj => ?_))
    · exact ae.stable (Set.le_refl _) (fun b hb => fD (h.immlt b hb).1) none none _ _ _ _ trivial (Set.le_refl _) (fun y hy => fD (hTlt y hy).1) hv
    · rw [cell?_block lA, Nat.zero_add]; exact hc j hj)
  simp only [Oper.wp, hrun, Oper.upon]
  refine ⟨_, hσ K rfl, imm, Λ', F', ?_⟩
  have := hr.put (d := some d) (x := .ref (d, 0) g 0 n) (v := .slice (some ⟨w.heap.size, 0, none⟩) n cap) (fun t ht => by cases ht; exact hd d hod) (by
    simp only [CR, hΛ, da]
    exact ⟨Nat.le_refl _, fun _ => ⟨0, cap, rfl, hcap, by omega, Nat.zero_le _, .inr ⟨by simp, by simpa using hsz⟩⟩, _, _, _, rfl⟩)
  rw [hod, ba, ← hσ0]
  exact this

theorem oJ (hE : EOk P E) (h : aB ρ σ a w imm Λ F) (hd : ∀ t, o.dst = some t → t < ρ.n) {t : Nat} {x y : Operand} (ho : o.op = .makeSlice t x y)
    (hh : (opd x fun l => opd y fun c => ka E (aq Fn LW IN) o.dst t l c).holds σ K) : bc P ρ σ K o a w Q := by
  obtain ⟨x', y', hx, hy, hk⟩ := h.opd2 hh
  clear hh
  unfold ka at hk
  split at hk
  · rename_i e n m ht
    split at hk
    · exact hk.elim
    rename_i hzb
    have hz : (E.info e).size ≠ 0 := fun z => hzb (.inl z)
    have hb : (E.info e).bytes ≠ 0 := fun z => hzb (.inr z)
    obtain ⟨⟨h0, h1, h2⟩, hk⟩ := hk
    replace h0 : 0 ≤ n := Int.not_lt.1 (of_decide_eq_false h0)
    replace h1 : n ≤ m := Int.not_lt.1 (of_decide_eq_false h1)
    replace h2 : m.toNat * (E.info e).bytes ≤ 140737488355328 := h2
    have h3 : m * (E.info e).bytes ≤ 140737488355328 := by
      have q : ((m.toNat * (E.info e).bytes : Nat) : Int) ≤ 140737488355328 := Int.ofNat_le.2 h2
      rwa [Int.natCast_mul, Int.toNat_of_nonneg (by omega)] at q
    replace h2 : m ≤ 4611686018427387904 := by
      have q := Nat.le_mul_of_pos_right m.toNat (Nat.pos_of_ne_zero hb)
      omega
    obtain ⟨d, hod, hk⟩ := bt hk
    replace hx := bo hx
    replace hy := bo hy
    obtain ⟨i, td, z, _, _, _, hd', htd, _⟩ := hE t (.inr (by rw [ht]; rfl))
    rw [ht] at htd
    cases td <;> simp only [cM] at htd
    rename_i el
    obtain rfl : e = el := htd.symm
    obtain ⟨i', td', z', hi', hsz', hby, _, _, hz1, hz2, hz3⟩ := hE e (.inl hz)
    have hzl : z'.cells.toList.length = (E.info e).size := by rw [← hz3, hz2]; simp
    have hzsz : z'.cells.size = (E.info e).size := by rw [← hzl]; simp
    refine .inl (og (σ0 := σ) (ws := []) (e := e) (n := n.toNat) (cap := m.toNat) (k := (E.info e).size) (zs := (List.replicate n.toNat z'.cells.toList).flatten) (rows := List.replicate n.toNat (E.info e).zero) (T := Set.no)
      (c := (Array.range (m.toNat * (E.info e).size)).map (fun i => z'.cells[i % z'.cells.size]!)) h hd hod (fun _ => Set.no_dis _) (Set.no_dis _) (fun _ z => z.elim) ?_ ?_ (fun q hq => by rw [(List.mem_replicate.1 hq).2, hz3]) (by simp) (by omega) (by simp) rfl ?_ (fun _ _ => hk) rfl)
    · intro j hj
      have hj' : j < n.toNat * (E.info e).size := by
        rw [List.length_flatten] at hj
        simpa [hzsz] using hj
      have hm' := Nat.mul_le_mul_right (E.info e).size (show n.toNat ≤ m.toNat by omega)
      have e1 := ow z'.cells.toList n.toNat
      rw [← e1, hzl]
      have q1 : ((Array.range (m.toNat * (E.info e).size)).map (fun i => z'.cells[i % z'.cells.size]!))[j]? = some (z'.cells[j % z'.cells.size]!) := by
        rw [Array.getElem?_map, Array.getElem?_range, if_pos (by omega)]; rfl
      have q2 : ((List.range (n.toNat * (E.info e).size)).map (fun i => z'.cells.toList.toArray[i % z'.cells.toList.toArray.size]!))[j]? = some (z'.cells[j % z'.cells.size]!) := by
        rw [List.getElem?_map, List.getElem?_range hj']; simp
      rw [q1, q2]
    · rw [hz2]; exact kJ _ _
    · have hw : ∀ q : Int, 0 ≤ q → q ≤ 4611686018427387904 → IntKind.i64.wrap q = q := fun q hq0 hq1 => by rw [IntKind.wrap_i64]; omega
      have hw1 := hw n h0 (by omega)
      have hw2 := hw m (by omega) h2
      have p48 : (2 : Int) ^ 48 = 281474976710656 := by decide
      have hbm : ¬ ((i'.bytes : Int) * m > 2 ^ 48) := by rw [hby, p48, Int.mul_comm]; omega
      have hbn : ¬ ((i'.bytes : Int) * n > 2 ^ 48) := by
        have : (i'.bytes : Int) * n ≤ i'.bytes * m := Int.mul_le_mul_of_nonneg_left h1 (by omega)
        omega
      have hm0 : ¬ m < 0 := by omega
      have hn0 : ¬ n < 0 := by omega
      have hnm : ¬ n > m := by omega
      have hnew : ∀ cs : Array Value, (newRow e cs).run P w = .ok ⟨w.heap.size, 0, none⟩ { w with heap := w.heap.push (.cells cs e) } := fun cs => by simp [newRow]
      by_cases hz0 : m.toNat * (E.info e).size = 0
      · simp [execOp, ho, hx, hy, Instr.makeSlice, run_underlying hd', asInt, asIntOf, gP hi', hw1, hw2, cT hi', hsz', run_askRoom, hm0, hn0, hnm, hz0, hnew]

        rw [if_neg (by omega)]; simp [show Array.range 0 = #[] from rfl]
      · simp [execOp, ho, hx, hy, Instr.makeSlice, run_underlying hd', asInt, asIntOf, gP hi', hw1, hw2, cT hi', hsz', run_askRoom, li hi' hz1, hm0, hn0, hnm, hz0, hnew]

        intro hc; omega
  · exact hk.elim
end
end Go.Vm
/- Slices that are written out; appends. -/
namespace Go.Vm
section
variable {P : Program} {E : TE} {Fn : FuncId → List A → List A → A → Prop} {LW : Code → (Ex → St → Prop) → St → Prop} {IN : InT} {ρ : Env} {σ : St} {K : List W → Prop} {o : Oper} {a : Act} {w : World} {Q : Exit → Act → World → Prop} {imm : Set} {Λ : Lam} {F : Key → Set}

theorem vg (h : aB ρ σ a w imm Λ F) {ks : List Key} {T : Set} (hT : ∀ b, T b → ∃ x ∈ ks, F x b) :
    (∀ κ', Set.dis T (dA F ks κ')) ∧ Set.dis T imm ∧ ∀ b, T b → b < w.heap.size ∧ (ρ.own0 b ∨ ρ.w0.heap.size ≤ b) := by
  refine ⟨fun κ' b hb hk => ?_, fun b hb hi => ?_, fun b hb => ?_⟩
  · obtain ⟨x, hx, hF⟩ := hT b hb
    simp only [dA] at hk
    split at hk
    · exact hk
    · rename_i hn
      exact h.dis x κ' (fun e => hn (e ▸ hx)) b hF hk
  · obtain ⟨x, _, hF⟩ := hT b hb; exact h.fimm x b hF hi
  · obtain ⟨x, _, hF⟩ := hT b hb; exact h.flt x b hF
theorem cF.gen (h : aB ρ σ a w imm Λ F) {ks : List Key} {ws : List W} (hk : cF Λ ks ws) (x : Key) : (lkN (σ.upd ws).heap x.1 x.2).gen = (lkN σ.heap x.1 x.2).gen := by
  rw [(hk σ).2 x]
  split
  · exact lh h x
  · rfl

theorem oz (hE : EOk P E) (h : aB ρ σ a w imm Λ F) (hd : ∀ t, o.dst = some t → t < ρ.n) {t n : Nat} {ps : Array (Nat × Operand)} (ho : o.op = .buildSlice t n ps)
    (hh : (jr E (aq Fn LW IN) o.dst t n ps.toList).holds σ K) : bc P ρ σ K o a w Q := by
  unfold jr at hh
  split at hh
  · rename_i e ht
    split at hh
    · exact hh.elim
    rename_i hsize
    obtain ⟨vs, hh2, hidx, hv⟩ := iW h hh
    clear hh
    obtain ⟨ks, ws, rs, T, hh3, hk, _, hT, hidx2, xs, q6, q7, q8⟩ := lJ h vs [] _ _ hv hh2
    clear hh2
    obtain ⟨rows, hf, hh4⟩ := bt hh3
    clear hh3
    obtain ⟨d, hod, hk4⟩ := bt hh4
    clear hh4
    obtain ⟨i, td, z, _, _, _, hd', htd, _⟩ := hE t (.inr (by rw [ht]; rfl))
    rw [ht] at htd
    cases td <;> simp only [cM] at htd
    rename_i el
    obtain rfl : e = el := htd.symm
    have hz : (E.info e).size ≠ 0 := fun h0 => hsize (.inr h0)
    obtain ⟨i', td', z', hi', hsz', hby, _, _, hz1, hz2, hz3⟩ := hE e (.inl hz)
    have hzl : z'.cells.toList.length = (E.info e).size := by rw [← hz3, hz2]; simp
    have hzsz : z'.cells.size = (E.info e).size := by rw [← hzl]; simp
    have hrep := kJ (w := w) (imm := imm) z'.cells.toList n
    rw [← hz2] at hrep
    obtain ⟨zs', g1, g2, g3, g4⟩ := kG hz rs _ xs _ rows _ Set.no T T q6 q7 q8 (fun q hq => by rw [(List.mem_replicate.1 hq).2, hz3]) hrep (Set.no_le _) (Set.le_refl _) (fun _ _ z => z.elim) hf
    obtain ⟨t1, t2, t3⟩ := vg h hT
    have hr := h.kills hk
    have hlen : zs'.length = n * (E.info e).size := by
      rw [g2.length, dv g3, g4]; simp
    refine .inl (og (σ := σ.upd ws) (σ0 := σ) (ws := ws) (e := e) (n := n) (cap := n) (k := (E.info e).size) (zs := zs') (rows := rows) (T := T) (c := zs'.toArray) hr hd hod t1 t2 t3 (fun j _ => by simp) g2 g3 (by simpa using g4.symm) (Nat.le_refl _) (by simp [hlen]) (by rw [hk.gen h (d, 0)]) ?_ (fun _ _ => hk4) rfl)
    have hnew : ∀ cs : Array Value, (newRow e cs).run P w = .ok ⟨w.heap.size, 0, none⟩ { w with heap := w.heap.push (.cells cs e) } := fun cs => by simp [newRow]
    have hparts : (ps.map fun p => (p.1, a.eval p.2)).toList = (rs.map (·.1)).zip (ps.toList.map fun p => a.eval p.2) := by
      rw [hidx2, hidx]
      simp only [Array.toList_map]
      rw [List.zip_map']
    have hfill : Instr.fill (fun i => some (i * (E.info e).size, (E.info e).size)) ((Array.range (n * (E.info e).size)).map (fun i => z'.cells[i % z'.cells.size]!)) (ps.map fun p => (p.1, a.eval p.2)).toList = some zs'.toArray := by
      rw [hparts, ← g1]
      congr 1
      have := vB z'.cells.toList n (n * (E.info e).size) (by rw [hzl])
      simpa using this
    have p24 : (2 : Nat) ^ 24 = 16777216 := by decide
    have h1 : ¬ n * (E.info e).size > 16777216 := fun x => hsize (.inl x)
    by_cases h2 : n * (E.info e).size = 0
    · have hfill' : Instr.fill (fun i => some (i * (E.info e).size, (E.info e).size)) ((Array.range (n * (E.info e).size)).map (fun i => (#[] : Array Value)[i % (#[] : Array Value).size]!)) (ps.map fun p => (p.1, a.eval p.2)).toList = some zs'.toArray := by
        rw [← hfill, h2]; simp [show Array.range 0 = #[] from rfl]
      simp only [execOp, ho, Instr.buildSlice, Sem.run_bind, run_underlying hd', Result.andThen_ok, cT hi', hsz', p24, if_neg h1, if_pos h2, Sem.run_pure, hfill', hnew]
    · simp only [execOp, ho, Instr.buildSlice, Sem.run_bind, run_underlying hd', Result.andThen_ok, cT hi', hsz', p24, if_neg h1, if_neg h2, li hi' hz1, Sem.run_pure, hfill, hnew]
  · exact hh.elim
end
end Go.Vm
/- Appends. -/
namespace Go.Vm
section
variable {P : Program} {E : TE} {Fn : FuncId → List A → List A → A → Prop} {LW : Code → (Ex → St → Prop) → St → Prop} {IN : InT} {ρ : Env} {σ : St} {K : List W → Prop} {o : Oper} {a : Act} {w : World} {Q : Exit → Act → World → Prop} {imm : Set} {Λ : Lam} {F : Key → Set}

/-- what is appended: its cells, read or taken -/
structure ke (P : Program) (w : World) (imm : Set) (F : Key → Set) (k : Nat) (y : A) (v : Value) (n : Nat) (rows : Rows) (us : List Value) (T : Set) (ks : List Key) : Prop where
  val : ∃ ad c, v = .slice ad n c ∧ (n = 0 ∨ ∃ b p, ad = some ⟨b, p, none⟩ ∧ Room.holdsV w ⟨b, p, none⟩ (n * k) = true ∧ (imm b ∨ ∃ κ' g i m, y = .ref κ' g i m ∧ F κ' b))
  cells : ∀ w' : World, w'.heap = w.heap → (Builtin.firstCells k n v).run P w' = .ok us.toArray w'
  vals : ae w imm none rows.flatten us T
  wide : ∀ q ∈ rows, q.length = k
  len : rows.length = n
  one : ∀ u ∈ us, (∀ c, u ≠ .agg c) ∧ (∀ c, u ≠ .tuple c)
  sub : ∀ b, T b → ∃ x ∈ ks, F x b
  keys : ∀ x ∈ ks, ∃ g i m, y = .ref x g i m

theorem uo {v : Value} (h : (∀ c, v ≠ .agg c) ∧ (∀ c, v ≠ .tuple c)) : v.oneCell' = true := by
  cases v <;> first | rfl | exact absurd rfl (h.1 _) | exact absurd rfl (h.2 _)

theorem fJ {k : Nat} {y : A} {ad : Option Addr} {c : Nat} : ke P w imm F k y (.slice ad 0 c) 0 [] [] Set.no [] where
  val := ⟨ad, c, rfl, .inl rfl⟩
  cells w' _ := by
    cases ad with
    | none => simp [Builtin.firstCells]
    | some b => simp [Builtin.firstCells, loadCells, loadCellsFrom]
  vals := by simp [ae]
  wide := by simp
  len := rfl
  one := by simp
  sub _ z := z.elim
  keys := by simp

theorem ol {k : Nat} {y : A} {b p n c : Nat} {rows : Rows} {S T : Set} {ks : List Key} (hk : k ≠ 0) (hr : ap w imm none rows b p k S) (hn : rows.length = n) (hones : ∀ r ∈ rows, ∀ c ∈ r, ef c = true)
    (hplain : (∀ r ∈ rows, ∀ c ∈ r, plain c = true) ∨ Set.le S T) (hb : imm b ∨ ∃ κ' g i m, y = .ref κ' g i m ∧ F κ' b) (hT : ∀ b, T b → ∃ x ∈ ks, F x b) (hks : ∀ x ∈ ks, ∃ g i m, y = .ref x g i m) :
    ∃ us, ke P w imm F k y (.slice (some ⟨b, p, none⟩) n c) n rows us T ks := by
  obtain ⟨hc, hwide⟩ := hr.cells
  obtain ⟨us, hl, hcell, hv⟩ := ag.vals _ _ _ hc
  have hlen : us.length = n * k := by rw [hl, dv hwide, hn]
  have hall : rows.flatten.all ef = true := by
    rw [List.all_eq_true]
    intro x hx
    obtain ⟨r, hr, hx⟩ := List.mem_flatten.1 hx
    exact hones r hr x hx
  refine ⟨us, ⟨⟨_, c, rfl, ?_⟩, ?_, ?_, hwide, hn, ae.one hall hv, hT, hks⟩⟩
  · rcases Nat.eq_zero_or_pos n with h0 | h0
    · exact .inl h0
    · refine .inr ⟨b, p, rfl, ?_, hb⟩
      have hpos : 0 < n * k := Nat.mul_pos h0 (Nat.pos_of_ne_zero hk)
      have hlast := hcell (n * k - 1) (by omega)
      have hsome : ∃ u, us[n * k - 1]? = some u := ⟨us[n * k - 1], by simp [show n * k - 1 < us.length by omega]⟩
      obtain ⟨u, hu⟩ := hsome
      rw [hu] at hlast
      unfold Room.holdsV World.shape?
      unfold World.cell? at hlast
      simp only at hlast ⊢
      cases hh : w.heap[b]? with
      | none => rw [hh] at hlast; simp at hlast
      | some ob =>
        rw [hh] at hlast
        cases ob with
        | cells cs e fr =>
          simp only at hlast ⊢
          have : p + (n * k - 1) < cs.size := by
            rcases Nat.lt_or_ge (p + (n * k - 1)) cs.size with h | h
            · exact h
            · rw [Array.getElem?_eq_none h] at hlast; cases hlast
          simp; omega
        | _ => simp at hlast
  · intro w' hw'
    have hrun := dI (P := P) b p w' us 0 #[] (fun j hj => by rw [show p + 0 + j = p + j by omega, cell?_same (w := w) (w' := w') (by rw [hw'])]; exact hcell j hj)
    simp only [Builtin.firstCells, loadCells]
    rw [← hlen]
    simpa using hrun
  · rcases hplain with hp | hS
    · refine (ae.plain ?_ hv).mono (Set.no_le _)
      rw [List.all_eq_true]
      intro x hx
      obtain ⟨r, hr, hx⟩ := List.mem_flatten.1 hx
      exact hp r hr x hx
    · exact hv.mono hS

theorem uJ (h : aB ρ σ a w imm Λ F) {k : Nat} (hk : k ≠ 0) {y : A} {v : Value} (hy : CR w imm (some Λ) y v Set.no) {f : Rows → Pg} (hh : (mX (aq Fn LW IN) k y f).holds σ K) :
    ∃ n rows us, (f rows).holds σ K ∧ ke P w imm F k y v n rows us Set.no [] := by
  unfold mX at hh
  split at hh
  · have := bo hy; subst this
    exact ⟨0, [], [], hh, fJ⟩
  · simp only [CR] at hy
    obtain ⟨ad, rfl⟩ := hy
    exact ⟨0, [], [], hh, fJ⟩
  · rename_i rows
    obtain ⟨⟨hw, hones⟩, hh⟩ := hh
    simp only [CR] at hy
    obtain ⟨ad, cap, rfl, hcap, hrows⟩ := hy
    rcases hrows with rfl | ⟨b, p, k', rfl, hb, hR⟩
    · exact ⟨0, [], [], hh, fJ⟩
    · have hR' : ap w imm none rows b p k Set.no := by
        cases rows with
        | nil => simp only [ap]
        | cons r rows =>
          have h1 := hw r (by simp)
          have h2 := hR
          simp only [ap] at h2
          obtain ⟨_, _, h2, _⟩ := h2
          rw [← h1, h2]; exact hR
      obtain ⟨us, hs⟩ := ol (P := P) (F := F) (y := .tree rows) (n := rows.length) (c := cap) (T := Set.no) (ks := []) hk hR' rfl hones (.inr (Set.le_refl _)) (.inl hb) (fun _ z => z.elim) (by simp)
      exact ⟨_, rows, us, hh, hs⟩
  · rename_i κ g i n
    replace hh := h.node hh
    obtain ⟨nd, hnd, hN, hh⟩ := hh
    simp only [CR] at hy
    have key : ∀ {rows : Rows} {b base : Nat} {S : Set}, (∀ b' base' size', (Λ κ).loc = .at_ b' base' size' → b' = b ∧ base' = base) → (Λ κ).k = k → (Λ κ).gen = g → (Λ κ).loc ≠ .gone → i + n ≤ rows.length → (∀ r ∈ rows, ∀ c ∈ r, ef c = true) →
        (imm b ∨ F κ b) → ((∀ r ∈ rows, ∀ c ∈ r, plain c = true) ∨ Set.le S Set.no) → ap w imm none rows b base k S → ∃ us, ke P w imm F k (.ref κ g i n) v n ((rows.drop i).take n) us Set.no [] := by
      intro rows b base S hloc hkk hg hgone hin hones hb hplain hR
      rcases Nat.eq_zero_or_pos n with h0 | h0
      · obtain ⟨ad, cap, e1, _⟩ := da.len hy hg hgone
        subst h0
        rw [e1, List.take_zero]
        exact ⟨[], fJ⟩
      · obtain ⟨b', base', size', cap, e1, g1, g2, g3, e2⟩ := da.at hy hg hgone h0
        obtain ⟨rfl, rfl⟩ := hloc _ _ _ e1
        rw [e2, hkk]
        refine ol hk (ap.take _ _ _ _ (ap.drop i _ _ hR)) (by simp; omega) (fun r hr => hones r (List.mem_of_mem_drop (List.mem_of_mem_take hr))) (hplain.imp (fun hp r hr => hp r (List.mem_of_mem_drop (List.mem_of_mem_take hr))) id) (hb.imp id (fun hF => ⟨κ, g, i, n, rfl, hF⟩)) (fun _ z => z.elim) (by simp)
    cases nd <;> simp only [Pg.holds] at hh <;> (try exact hh.elim)
    · rename_i g' k' rows
      split at hh
      · rename_i hc
        obtain ⟨rfl, rfl⟩ := hc
        obtain ⟨⟨hin, hflat, hones⟩, hh⟩ := hh
        replace hin : i + n ≤ rows.length := hin
        obtain ⟨h1, h2, h3, h4⟩ := hN
        have : ∃ us, ke P w imm F k' (.ref κ g i n) v n ((rows.drop i).take n) us Set.no [] := by
          rcases h4 with ⟨e, rfl⟩ | ⟨b, base, size, S', e, g1, g2, g3, g4, g5, g6⟩
          · obtain ⟨ad, cap, e1, _⟩ := da.len hy h1 (by rw [e]; simp)
            obtain rfl : n = 0 := by simp at hin; omega
            rw [e1, List.take_zero]
            exact ⟨[], fJ⟩
          · exact key (b := b) (base := base) (fun b' base' size' e' => by rw [e] at e'; cases e'; exact ⟨rfl, rfl⟩) h2 h1 (by rw [e]; simp) hin hones (.inr g1) (.inl hflat) g6
        obtain ⟨us, hs⟩ := this
        exact ⟨n, _, us, hh, hs⟩
      · exact hh.elim
    · rename_i g' k' rows
      split at hh
      · rename_i hc
        obtain ⟨rfl, rfl⟩ := hc
        obtain ⟨⟨hin, hones⟩, hh⟩ := hh
        replace hin : i + n ≤ rows.length := hin
        obtain ⟨h1, h2, h3, h4⟩ := hN
        have : ∃ us, ke P w imm F k' (.ref κ g i n) v n ((rows.drop i).take n) us Set.no [] := by
          rcases h4 with ⟨e, rfl⟩ | ⟨b, base, size, e, g1, g6⟩
          · obtain ⟨ad, cap, e1, _⟩ := da.len hy h1 (by rw [e]; simp)
            obtain rfl : n = 0 := by simp at hin; omega
            rw [e1, List.take_zero]
            exact ⟨[], fJ⟩
          · exact key (b := b) (base := base) (fun b' base' size' e' => by rw [e] at e'; cases e'; exact ⟨rfl, rfl⟩) h2 h1 (by rw [e]; simp) hin hones (.inl g1) (.inr (Set.le_refl _)) g6
        obtain ⟨us, hs⟩ := this
        exact ⟨n, _, us, hh, hs⟩
      · exact hh.elim
  · exact hh.elim

theorem oO (h : aB ρ σ a w imm Λ F) {k t : Nat} (hk : k ≠ 0) {y : A} {v : Value} (hy : CR w imm (some Λ) y v Set.no) {f : List W → Rows → Pg} (hh : (po (aq Fn LW IN) k t y f).holds σ K) :
    ∃ n rows us ws ks T, (f ws rows).holds σ K ∧ cF Λ ks ws ∧ ke P w imm F k y v n rows us T ks := by
  have plainly : (mX (aq Fn LW IN) k y (f [])).holds σ K → ∃ n rows us ws ks T, (f ws rows).holds σ K ∧ cF Λ ks ws ∧ ke P w imm F k y v n rows us T ks := fun hh => by
    obtain ⟨n, rows, us, h1, h2⟩ := uJ (P := P) h hk hy hh
    exact ⟨n, rows, us, [], [], _, h1, cF.nil Λ, h2⟩
  unfold po at hh
  split at hh
  · rename_i κ g i n
    split at hh
    · have hh' := h.node hh
      obtain ⟨nd, hnd, hN, hh2⟩ := hh'
      cases nd with
      | arr g' k' rows =>
        simp only at hh2
        split at hh2
        · rename_i hc
          obtain ⟨rfl, rfl, rfl⟩ := hc
          obtain ⟨⟨hn, hones⟩, hh2⟩ := hh2
          simp only [CR] at hy
          obtain ⟨h1, h2, h3, h4⟩ := hN
          have hkill : cF Λ [κ] [.n κ (.dead g)] := by
            have := (cF.nil Λ).cons κ
            rw [h1] at this; exact this
          have : ∃ us, ke P w imm F k' (.ref κ g 0 n) v n rows us (F κ) [κ] := by
            rcases h4 with ⟨e, rfl⟩ | ⟨b, base, size, S', e, g1, g2, g3, g4, g5, g6⟩
            · obtain ⟨ad, cap, e1, _⟩ := da.len hy h1 (by rw [e]; simp)
              obtain rfl : n = 0 := hn
              rw [e1]
              have s0 := fJ (P := P) (w := w) (imm := imm) (F := F) (k := k') (y := .ref κ g 0 0) (ad := ad) (c := cap)
              exact ⟨[], { s0 with vals := by simp [ae], sub := fun b hb => ⟨κ, by simp, hb⟩, keys := fun x hx => by simp at hx; exact ⟨g, 0, 0, by rw [hx]⟩ }⟩
            · have hsub : ∀ b, F κ b → ∃ x ∈ [κ], F x b := fun b hb => ⟨κ, by simp, hb⟩
              have hkeys : ∀ x ∈ [κ], ∃ g' i m, A.ref κ g 0 n = .ref x g' i m := fun x hx => by simp at hx; exact ⟨g, 0, n, by rw [hx]⟩
              rcases Nat.eq_zero_or_pos n with h0 | h0
              · obtain ⟨ad, cap, e1, _⟩ := da.len hy h1 (by rw [e]; simp)
                subst h0
                obtain rfl : rows = [] := List.eq_nil_of_length_eq_zero hn.symm
                rw [e1]
                have s0 := fJ (P := P) (w := w) (imm := imm) (F := F) (k := k') (y := .ref κ g 0 0) (ad := ad) (c := cap)
                exact ⟨[], { s0 with vals := by simp [ae], sub := hsub, keys := hkeys }⟩
              · obtain ⟨b', base', size', cap, e1, q1, q2, q3, e2⟩ := da.at hy h1 (by rw [e]; simp) h0
                rw [e] at e1
                cases e1
                rw [e2]
                exact ol (F := F) hk (by simpa using g6) hn.symm hones (.inr g3) (.inr ⟨κ, g, 0, n, rfl, g1⟩) hsub hkeys
          obtain ⟨us, hs⟩ := this
          exact ⟨n, rows, us, _, _, _, hh2, hkill, hs⟩
        · exact hh2.elim
      | _ => exact plainly hh2
    · exact plainly hh
  · exact plainly hh

/-- what is appended to: nothing, or a row of the frame's own -/
structure wg (P : Program) (w : World) (imm : Set) (F : Key → Set) (k : Nat) (base : Option Addr) (n cap : Nat) (rows : Rows) (us : List Value) (T : Set) (ks : List Key) : Prop where
  cells : ∀ w' : World, w'.heap = w.heap → (Builtin.firstCells k n (.slice base n cap)).run P w' = .ok us.toArray w'
  vals : ae w imm none rows.flatten us T
  wide : ∀ q ∈ rows, q.length = k
  len : rows.length = n
  lies : (base = none ∧ n = 0 ∧ cap = 0 ∧ rows = []) ∨ ∃ b p size κ, base = some ⟨b, p, none⟩ ∧ κ ∈ ks ∧ F κ b ∧ Own w b size ∧ p + cap * k ≤ size ∧ p ≤ size ∧ ¬ T b ∧ ap w imm none rows b p k T ∧ n ≤ cap
  sub : ∀ b, T b → ∃ x ∈ ks, F x b

theorem aB.draw (h : aB ρ σ a w imm Λ F) : aB ρ σ a w.drew imm Λ F :=
  h.step (σ' := σ) (w' := w.drew) (fun _ => rfl) (Set.le_refl _) (fun _ _ => rfl) (Nat.le_refl _) (fun _ _ _ => rfl) (bi.refl Λ)
    (fun κ => (h.nodes κ).stable (w := w) (w' := w.drew) (Set.le_refl _) (fun _ _ => rfl) (fun _ _ => rfl) (bi.refl Λ)) h.dis h.fimm (fun κ _ hb => .inl ⟨κ, hb⟩) (fun _ hb => .inl hb) ⟨rfl, rfl, rfl, aJ.same fun _ _ => rfl⟩

/-- a node made of what others owned, memory changed in their blocks alone -/
theorem aB.onto (h : aB ρ σ a w imm Λ F) {ks : List Key} {ws : List W} (hk : cF Λ ks ws) {κ0 : Key} {g k : Nat} {rows : Rows} {i' : KI} {w' : World} {S : Set} (hS : ∀ b, S b → ∃ x ∈ ks, F x b) (hg : i'.gen = (lkN σ.heap κ0.1 κ0.2).gen + 1)
    (hheap : ∀ b, (¬ ∃ x ∈ ks, F x b) → w'.heap[b]? = w.heap[b]?) (hsz : w'.heap.size = w.heap.size) (hos : w'.os = w.os ∧ w'.output = w.output ∧ w'.tape = w.tape ∧ aJ w w') (hN : ∀ Λ', NR w' imm Λ' i' (.arr g k rows) S) :
    ∃ Λ' F', aB ρ ((σ.upd ws).upd1 (.n κ0 (.arr g k rows))) a w' imm Λ' F' ∧ Λ' κ0 = i' := by
  obtain ⟨hk1, hk2⟩ := hk σ
  have hle : bi Λ (up (dE Λ ks) κ0 i') := by
    intro x
    by_cases ex : x = κ0
    · subst ex; rw [ax]; have := lh h x; exact ⟨by omega, fun e => by omega⟩
    · rw [aO _ _ ex]; exact jz Λ ks x
  have himm : ∀ b, imm b → w'.heap[b]? = w.heap[b]? := fun b hb => hheap b (fun ⟨x, _, hF⟩ => h.fimm x b hF hb)
  refine ⟨up (dE Λ ks) κ0 i', up (dA F ks) κ0 S, h.step hk1 (Set.le_refl _) himm (by omega) (fun b _ hno => hheap b (fun ⟨x, _, hF⟩ => hno ⟨x, hF⟩)) hle ?_ ?_ ?_ ?_ (fun b hb => .inl hb) hos, ax _ _ _⟩
  · intro x
    show NR _ _ _ _ (lkN ((κ0, HN.arr g k rows) :: (σ.upd ws).heap) x.1 x.2) _
    rw [aZ]
    by_cases ex : x = κ0
    · subst ex; rw [if_pos rfl, ax, ax]; exact hN _
    · rw [if_neg ex, aO _ _ ex, aO _ _ ex, hk2 x]
      by_cases hx : x ∈ ks
      · rw [if_pos hx]
        simp only [dE, if_pos hx]
        exact ⟨rfl, rfl⟩
      · rw [if_neg hx]
        have e1 : dA F ks x = F x := by simp [dA, hx]
        have e2 : dE Λ ks x = Λ x := by simp [dE, hx]
        rw [e1, e2]
        exact (h.nodes x).stable (Set.le_refl _) himm (fun b hb => hheap b (fun ⟨y, hy, hF⟩ => h.dis x y (fun e => hx (e ▸ hy)) b hb hF)) hle
  · intro x y hxy b hx hy
    have sub : ∀ z, dA F ks z b → F z b ∧ z ∉ ks := fun z hz => by
      simp only [dA] at hz
      split at hz
      · exact hz.elim
      · rename_i hn; exact ⟨hz, hn⟩
    by_cases ex : x = κ0
    · subst ex
      rw [ax] at hx
      rw [aO _ _ (Ne.symm hxy)] at hy
      obtain ⟨z, hz, hF⟩ := hS b hx
      exact h.dis z y (fun e => (sub y hy).2 (e ▸ hz)) b hF (sub y hy).1
    · rw [aO _ _ ex] at hx
      by_cases ey : y = κ0
      · subst ey
        rw [ax] at hy
        obtain ⟨z, hz, hF⟩ := hS b hy
        exact h.dis z x (fun e => (sub x hx).2 (e ▸ hz)) b hF (sub x hx).1
      · rw [aO _ _ ey] at hy; exact h.dis x y hxy b (sub x hx).1 (sub y hy).1
  · intro x b hx hb
    by_cases ex : x = κ0
    · subst ex
      rw [ax] at hx
      obtain ⟨z, _, hF⟩ := hS b hx
      exact h.fimm z b hF hb
    · rw [aO _ _ ex] at hx; exact h.fimm x b (eD F ks x b hx) hb
  · intro x b hx
    by_cases ex : x = κ0
    · subst ex
      rw [ax] at hx
      obtain ⟨z, _, hF⟩ := hS b hx
      exact .inl ⟨z, hF⟩
    · rw [aO _ _ ex] at hx; exact .inl ⟨x, eD F ks x b hx⟩

theorem ae.join {x : Option Lam} : ∀ {cs ds : List A} {vs us : List Value} {T1 T2 T : Set}, ae w imm x cs vs T1 → ae w imm x ds us T2 → Set.le T1 T → Set.le T2 T → Set.dis T1 T2 → ae w imm x (cs ++ ds) (vs ++ us) T
  | [], ds, [], us, T1, T2, T, _, h2, _, l2, _ => by simpa using h2.mono l2
  | [], ds, _ :: _, us, T1, T2, T, h1, _, _, _, _ => by simp only [ae] at h1
  | c :: cs, ds, [], us, T1, T2, T, h1, _, _, _, _ => by simp only [ae] at h1
  | c :: cs, ds, v :: vs, us, T1, T2, T, h1, h2, l1, l2, hd => by
    simp only [ae] at h1
    obtain ⟨U1, U2, g1, g2, g3, g4, g5⟩ := h1
    simp only [List.cons_append, ae]
    exact ⟨U1, fun b => U2 b ∨ T2 b, g1, ae.join g2 h2 (fun _ z => .inl z) (fun _ z => .inr z) (fun b hb hb2 => hd b (g4 b hb) hb2), Set.le_trans g3 l1, fun b hb => hb.elim (fun z => l1 b (g4 b z)) (l2 b), fun b hb hz => hz.elim (g5 b hb) (hd b (g3 b hb))⟩

theorem qq {need : Nat} (h : 256 < need) : ∀ (r c : Nat), c ≤ 2 * need → Builtin.growBy need r c ≤ 2 * need
  | 0, c, hc => hc
  | r + 1, c, hc => by
    simp only [Builtin.growBy]
    split
    · exact hc
    · exact qq h r _ (by omega)
theorem o7 {need old : Nat} (h : old < need) : Builtin.nextslicecap need old ≤ 2 * need := by
  unfold Builtin.nextslicecap
  split
  · omega
  · split
    · omega
    · exact qq (by omega) 4 old (by omega)

theorem nn (h : aB ρ σ a w imm Λ F) (hd : ∀ t, o.dst = some t → t < ρ.n) {x y : Operand} {t s e e' : TypeId} (ho : o.op = .call { callee := .builtin .append, args := #[x, y], argTypes := #[t, s] })
    (et : P.underlying t = some (.slice e)) (es : P.underlying s = some (.slice e')) {i : TypeInfo} {z : Value} (hi : P.info? e = some i) (hz : i.zero = some z) {k : Nat} (hik : i.size = k) (_hk0 : k ≠ 0) (hby : i.bytes ≠ 0) (hzs : z.cells.size = k)
    {base : Option Addr} {n cap n2 : Nat} (hx : a.eval x = .slice base n cap) {rows1 rows2 : Rows} {us1 us2 : List Value} {T1 T2 : Set} {ks1 ks2 : List Key} {ws1 ws2 : List W} {y' : A}
    (hold : wg P w imm F k base n cap rows1 us1 T1 ks1) (hsrc : ke P w imm F k y' (a.eval y) n2 rows2 us2 T2 ks2) (hk1 : cF Λ ks1 ws1) (hk2 : cF Λ ks2 ws2) (hap : ∀ κ ∈ ks1, ∀ g i m, y' ≠ .ref κ g i m)
    (hroomy : (n + n2) * i.bytes ≤ 140737488355328) {d : Nat} (hod : o.dst = some d) {g : Nat} (hg : g = (lkN σ.heap d 0).gen + 1) (hK : K (ws1 ++ ws2 ++ [.n (d, 0) (.arr g k (rows1 ++ rows2)), .s d (.ref (d, 0) g 0 (n + n2))])) : bc P ρ σ K o a w Q := by
  have hkk := hk1.append hk2
  have hdisk : ∀ κ ∈ ks1, κ ∉ ks2 := fun κ h1 h2 => by obtain ⟨g, i, m, e⟩ := hsrc.keys κ h2; exact hap κ h1 g i m e
  have hd12 : Set.dis T1 T2 := fun b hb hb2 => by
    obtain ⟨κ, h1, hF⟩ := hold.sub b hb
    obtain ⟨κ2, h2, hF2⟩ := hsrc.sub b hb2
    exact h.dis κ κ2 (fun e => hdisk κ h1 (e ▸ h2)) b hF hF2
  have hT : ∀ b, (T1 b ∨ T2 b) → ∃ κ ∈ ks1 ++ ks2, F κ b := fun b hb => by
    rcases hb with hb | hb
    · obtain ⟨κ, h1, hF⟩ := hold.sub b hb; exact ⟨κ, List.mem_append_left _ h1, hF⟩
    · obtain ⟨κ, h1, hF⟩ := hsrc.sub b hb; exact ⟨κ, List.mem_append_right _ h1, hF⟩
  have hwide : ∀ q ∈ rows1 ++ rows2, q.length = k := fun q hq => by rcases List.mem_append.1 hq with hq | hq; exact hold.wide q hq; exact hsrc.wide q hq
  obtain ⟨ad2, c2, ev2, hlie2⟩ := hsrc.val
  have hu2 : us2.length = n2 * k := by rw [hsrc.vals.length, dv hsrc.wide, hsrc.len]
  have hu1 : us1.length = n * k := by rw [hold.vals.length, dv hold.wide, hold.len]
  have hS : Src P i.size s (a.eval y) n2 us2 w := by
    rw [hik]
    exact ⟨.inl ⟨e', es⟩, fun w' => by rw [ev2]; simp [Builtin.lenOf], hsrc.cells w rfl, hsrc.cells w.drew rfl, hu2, fun u hu => uo (hsrc.one u hu)⟩
  have hex : execOp a.eval o = (Builtin.append_ #[t, s] o.type #[.slice base n cap, a.eval y]).bind (fun v => Sem.pure (Next.value v)) := by
    unfold execOp
    simp only [ho, resolve, invoke, builtin, List.map_toArray, List.map_cons, List.map_nil, hx]
    rfl
  by_cases hroom : n + n2 ≤ cap
  · -- there is room
    rcases hold.lies with ⟨rfl, rfl, rfl, rfl⟩ | ⟨b, p, size, κ, rfl, hκ, hF, hown, hcap, hp, hTb, hR, hn⟩
    · obtain rfl : n2 = 0 := by omega
      obtain rfl : us2 = [] := List.eq_nil_of_length_eq_zero (by omega)
      obtain rfl : rows2 = [] := List.eq_nil_of_length_eq_zero hsrc.len
      obtain ⟨Λ', F', hr, hΛ⟩ := h.onto (κ0 := (d, 0)) (g := g) (k := k) (rows := []) (i' := ⟨g, .nil, k, 0⟩) (w' := w) (S := Set.no) hkk (fun _ z => z.elim) hg (fun _ _ => rfl) rfl ⟨rfl, rfl, rfl, aJ.refl w⟩ (fun _ => ⟨rfl, rfl, rfl, .inl ⟨rfl, rfl⟩⟩)
      refine .inl ?_
      have hrun : (Builtin.append_ #[t, s] o.type #[.slice none 0 0, a.eval y]).run P w = .ok (.slice none 0 0) w := by
        simp [Builtin.append_, run_underlying et, run_underlying es, sizeOf, typeInfo, hi, hS.len, hS.cells]
      simp only [Oper.wp, hex]
      rw [show Sem.run P ((Builtin.append_ #[t, s] o.type #[.slice none 0 0, a.eval y]).bind (fun v => Sem.pure (Next.value v))) w = .ok (.value (.slice none 0 0)) w by
        rw [Sem.run_bind' P]; rw [hrun]; rfl]
      simp only [Oper.upon]
      refine ⟨_, hK, imm, Λ', F', ?_⟩
      have := hr.put (d := some d) (x := .ref (d, 0) g 0 0) (v := .slice none 0 0) (fun t ht => by cases ht; exact hd d hod) (by
        simp only [CR, hΛ, da]
        exact ⟨Nat.le_refl _, fun _ => by simp, _, _, _, rfl⟩)
      rw [hod, ba]
      exact this
    · have hmul : (n + n2) * k ≤ cap * k := Nat.mul_le_mul_right k hroom
      rw [Nat.add_mul] at hmul
      have hst := il (P := P) (p + n * k) us2 0 hown (by omega) hsrc.one
      simp only [Nat.add_zero] at hst
      have hbimm : ¬ imm b := h.fimm κ b hF
      have hTb2 : ¬ T2 b := fun hb => by
        obtain ⟨κ2, h2, hF2⟩ := hsrc.sub b hb
        exact h.dis κ κ2 (fun e => hdisk κ hκ (e ▸ h2)) b hF hF2
      have hheap : ∀ q, q ≠ b → (setRow w b (p + n * k) us2).heap[q]? = w.heap[q]? := fun q hq => setRow_heap b us2 w _ q hq
      have hN : ∀ Λ', NR (setRow w b (p + n * k) us2) imm Λ' ⟨g, .at_ b p size, k, (rows1 ++ rows2).length⟩ (.arr g k (rows1 ++ rows2)) (fun q => q = b ∨ T1 q ∨ T2 q) := by
        intro Λ'
        refine ⟨rfl, rfl, rfl, .inr ⟨b, p, size, fun q => T1 q ∨ T2 q, rfl, .inl rfl, fun hb => hb.elim hTb hTb2, fun q hq => .inr hq, Own.setRow us2 hown _, ?_, ?_⟩⟩
        · rw [List.length_append, hold.len, hsrc.len, Nat.add_mul]; omega
        · refine ap.of_cells hwide ?_
          rw [List.flatten_append]
          refine ag.join (S1 := T1) (S2 := T2) ?_ ?_ (fun q hq => .inl hq) (fun q hq => .inr hq) hd12
          · refine (ap.cells (ap.far hheap hbimm rows1 p T1 hTb (fun q h1 h2 => ?_) hR)).1
            rw [dx us2 hown _ q (by omega), if_neg]
            rw [hold.len] at h2; omega
          · rw [dv hold.wide, hold.len]
            refine ag.of_vals (vs := us2) ?_ (fun j hj => ?_)
            · exact ae.stable (Set.le_refl _) (fun q hq => hheap q (fun e => hbimm (e ▸ hq))) none none _ _ _ _ trivial (Set.le_refl _) (fun q hq => hheap q (fun e => hTb2 (e ▸ hq))) hsrc.vals
            · rw [dx us2 hown _ _ (by omega), if_pos (by omega)]
              congr 1; omega
      obtain ⟨Λ', F', hr, hΛ⟩ := h.onto (κ0 := (d, 0)) (g := g) (k := k) (rows := rows1 ++ rows2) (i' := ⟨g, .at_ b p size, k, (rows1 ++ rows2).length⟩) (w' := setRow w b (p + n * k) us2) (S := fun q => q = b ∨ T1 q ∨ T2 q) hkk
        (fun q hq => by rcases hq with rfl | hq; exact ⟨κ, List.mem_append_left _ hκ, hF⟩; exact hT q hq) hg
        (fun q hq => hheap q (fun e => hq ⟨κ, List.mem_append_left _ hκ, e ▸ hF⟩)) (setRow_size b us2 w _) ⟨(setRow_os b us2 w _).1, (setRow_os b us2 w _).2.1, (setRow_os b us2 w _).2.2, aJ.setRow b us2 w _⟩ hN
      refine .inl ?_
      have hrun : (Builtin.append_ #[t, s] o.type #[.slice (some ⟨b, p, none⟩) n cap, a.eval y]).run P w = .ok (.slice (some ⟨b, p, none⟩) (n + n2) cap) (setRow w b (p + n * k) us2) := by
        simp [Builtin.append_, run_underlying et, run_underlying es, sizeOf, typeInfo, hi, hS.len, hsrc.cells w rfl, hroom, Addr.add_lit, hik, hst]
      simp only [Oper.wp, hex]
      rw [show Sem.run P ((Builtin.append_ #[t, s] o.type #[.slice (some ⟨b, p, none⟩) n cap, a.eval y]).bind (fun v => Sem.pure (Next.value v))) w = .ok (.value (.slice (some ⟨b, p, none⟩) (n + n2) cap)) (setRow w b (p + n * k) us2) by
        rw [Sem.run_bind' P]; rw [hrun]; rfl]
      simp only [Oper.upon]
      refine ⟨_, hK, imm, Λ', F', ?_⟩
      have := hr.put (d := some d) (x := .ref (d, 0) g 0 (n + n2)) (v := .slice (some ⟨b, p, none⟩) (n + n2) cap) (fun t ht => by cases ht; exact hd d hod) (by
        simp only [CR, hΛ, da]
        exact ⟨Nat.le_refl _, fun _ => ⟨p, cap, rfl, hroom, by simp [hold.len, hsrc.len], hp, .inr ⟨by simp, hcap⟩⟩, _, _, _, rfl⟩)
      rw [hod, ba]
      exact this
  · -- there is none
    have hg2 : cap < n + n2 := by omega
    have hfit : Builtin.nextslicecap (n + n2) cap * i.bytes ≤ 281474976710656 := by
      have h1 := Nat.mul_le_mul_right i.bytes (o7 hg2)
      rw [Nat.mul_assoc] at h1
      omega
    · have hnb : (n + n2) * i.bytes ≤ 281474976710656 := Nat.le_trans (Nat.mul_le_mul_right _ (le_nextslicecap hg2)) hfit
      have h63 : ((n + n2 : Nat) : Int) ≤ 9223372036854775807 := by
        have : n + n2 ≤ (n + n2) * i.bytes := Nat.le_mul_of_pos_right _ (Nat.pos_of_ne_zero hby)
        omega
      have hrun := run_append_grow_src (P := P) w t s o.type e i z et hi hz base n cap us1 (by rw [hik]; exact hold.cells w.drew rfl) (a.eval y) n2 us2 hS hg2 h63 hfit
      have hge := grownCap_ge w (n + n2) cap e
      generalize hgc : grownCap w (n + n2) cap e = gc at hrun hge
      obtain ⟨t1, t2, t3⟩ := vg h.draw hT
      have hr := h.draw.kills hkk
      refine .inl (og (w := w.drew) (w1 := w) (σ := σ.upd (ws1 ++ ws2)) (σ0 := σ) (ws := ws1 ++ ws2) (e := e) (n := n + n2) (cap := gc) (k := k) (zs := us1 ++ us2) (rows := rows1 ++ rows2) (T := fun b => T1 b ∨ T2 b)
        (c := (us1 ++ us2).toArray ++ Builtin.zeroCells z.cells (gc - (n + n2))) hr hd hod t1 t2 t3 (fun j hj => ?_) ?_ hwide (by simp [hold.len, hsrc.len]) hge ?_ (by rw [hkk.gen h (d, 0)]; exact hg) ?_ (fun _ _ => hK) rfl)
      · rw [Array.getElem?_append_left (by simpa using hj)]; simp
      · rw [List.flatten_append]
        exact ae.join (ae.stable (w := w) (w' := w.drew) (Set.le_refl _) (fun _ _ => rfl) none none _ _ _ _ trivial (Set.le_refl _) (fun _ _ => rfl) hold.vals) (ae.stable (w := w) (w' := w.drew) (Set.le_refl _) (fun _ _ => rfl) none none _ _ _ _ trivial (Set.le_refl _) (fun _ _ => rfl) hsrc.vals) (fun _ z => .inl z) (fun _ z => .inr z) hd12
      · have hmul : gc * k = (n + n2) * k + (gc - (n + n2)) * k := by rw [← Nat.add_mul]; congr 1; omega
        simp only [Array.size_append, List.size_toArray, List.length_append, hu1, hu2, Builtin.zeroCells, Array.size_map, Array.size_range, hzs]
        rw [hmul, Nat.add_mul]
        exact Nat.le_refl _
      · rw [hex, Sem.run_bind' P, hrun]
        rfl

theorem rJ (hE : EOk P E) (h : aB ρ σ a w imm Λ F) (hd : ∀ t, o.dst = some t → t < ρ.n) {c : Call} (ho : o.op = .call c) (hb : c.callee = .builtin .append) {x y : Operand} {t s : Nat} (hx : c.args.toList = [x, y]) (ht : c.argTypes.toList = [t, s])
    (hs : eQ (E.info s).td = true) (hh : (opd x fun a => opd y fun b => nN E (aq Fn LW IN) o.dst t (wD y) a b).holds σ K) : bc P ρ σ K o a w Q := by
  have hc : c = { callee := .builtin .append, args := #[x, y], argTypes := #[t, s] } := by
    cases c with
    | mk ca ar at_ =>
      simp only at hb hx ht
      subst hb
      congr 1 <;> exact Array.ext' (by simpa)
  subst hc
  have hes : ∃ e', P.underlying s = some (.slice e') := by
    obtain ⟨i, d, z, _, _, _, hd', htd, _⟩ := hE s (.inr (by cases h : (E.info s).td <;> rw [h] at hs <;> simp [eQ] at hs; rfl))
    cases hq : (E.info s).td <;> rw [hq] at hs <;> simp [eQ] at hs
    rw [hq] at htd
    cases d <;> simp only [cM] at htd
    exact ⟨_, hd'⟩
  obtain ⟨e', hes⟩ := hes
  obtain ⟨x', y', hxv, hyv, hk⟩ := h.opd2 hh
  clear hh
  unfold nN at hk
  split at hk
  · rename_i e het
    split at hk
    · exact hk.elim
    rename_i hz
    obtain ⟨d, hod, hk'⟩ := bt hk
    clear hk
    obtain ⟨i, td, z, _, _, _, hd', htd, _⟩ := hE t (.inr (by rw [het]; rfl))
    rw [het] at htd
    cases td <;> simp only [cM] at htd
    rename_i el
    obtain rfl : e = el := htd.symm
    have hz0 : (E.info e).size ≠ 0 := fun h0 => hz (.inl h0)
    obtain ⟨i', td', z', hi', hsz', hby, _, _, hz1, hz2, hz3⟩ := hE e (.inl hz0)
    have hzsz : z'.cells.size = (E.info e).size := by rw [← hz3, hz2]; simp
    have hby0 : i'.bytes ≠ 0 := by rw [hby]; exact fun h0 => hz (.inr h0)
    split at hk'
    · -- onto nothing
      have hx0 : a.eval x = .slice none 0 0 := bo hxv
      obtain ⟨n2, rows2, us2, ws2, ks2, T2, hK, hkill, hsrc⟩ := oO (P := P) h hz0 hyv hk'
      have hold : wg P w imm F (E.info e).size none 0 0 [] [] Set.no [] :=
        { cells := fun w' _ => by simp [Builtin.firstCells], vals := by simp [ae], wide := by simp, len := rfl, lies := .inl ⟨rfl, rfl, rfl, rfl⟩, sub := fun _ z => z.elim }
      obtain ⟨hroom, hK⟩ := hK
      refine nn h hd ho hd' hes hi' hz1 hsz' hz0 hby0 hzsz hx0 hold hsrc (cF.nil Λ) hkill (by simp) (by rw [Nat.zero_add, hby, ← hsrc.len]; exact hroom) hod rfl ?_
      rw [← hsrc.len, Nat.zero_add]
      exact hK
    · rename_i κ g j n
      replace hk' := h.node hk'
      obtain ⟨nd, hnd, hN, hk2⟩ := hk'
      split at hk2
      · rename_i g' k rows
        split at hk2
        · rename_i hc
          obtain ⟨rfl, rfl, rfl, hiso, _⟩ := hc
          obtain ⟨n2, rows2, us2, ws2, ks2, T2, hK, hkill, hsrc⟩ := oO (P := P) h hz0 hyv hk2
          obtain ⟨⟨hn, hroom⟩, hK⟩ := hK
          simp only [CR] at hxv
          obtain ⟨h1, h2, h3, h4⟩ := hN
          have hgone : (Λ κ).loc ≠ .gone := by rcases h4 with ⟨e, _⟩ | ⟨_, _, _, _, e, _⟩ <;> rw [e] <;> simp
          have hk1 : cF Λ [κ] [.n κ (.dead g)] := by
            have := (cF.nil Λ).cons κ
            rw [h1] at this; exact this
          have hap : ∀ κ' ∈ [κ], ∀ g i m, y' ≠ .ref κ' g i m := by
            rintro κ' hκ' g i m rfl
            simp at hκ'; subst hκ'
            simp only [tL] at hiso
            have := (lg κ' [κ']).2 (by simp)
            rw [this] at hiso; cases hiso
          have fin : ∀ {base : Option Addr} {cap : Nat} {us1 : List Value} {T1 : Set}, a.eval x = .slice base n cap → wg P w imm F (E.info e).size base n cap (rows.take n) us1 T1 [κ] → bc P ρ σ K o a w Q := by
            intro base cap us1 T1 hx0 hold
            refine nn h hd ho hd' hes hi' hz1 hsz' hz0 hby0 hzsz hx0 hold hsrc hk1 hkill hap (by rw [hby, ← hsrc.len]; exact hroom) hod rfl ?_
            have e1 : (aq Fn LW IN).app ((aq Fn LW IN).part rows 0 n) rows2 = rows.take n ++ rows2 := by simp [aq]
            rw [e1] at hK
            rw [← hsrc.len]
            exact hK
          have h5 := hxv.2.1 h1.symm
          rcases h4 with ⟨e1, rfl⟩ | ⟨b, base, size, S', e1, g1, g2, g3, g4, g5, g6⟩
          · rw [e1] at h5
            obtain ⟨_, rfl, hx0⟩ := h5
            exact fin (us1 := []) (T1 := Set.no) hx0 { cells := fun w' _ => by simp [Builtin.firstCells], vals := by simp [ae], wide := by simp, len := rfl, lies := .inl ⟨rfl, rfl, rfl, rfl⟩, sub := fun _ z => z.elim }
          · rw [e1] at h5
            obtain ⟨p, cap, hx0, i1, i2, i3, i4⟩ := h5
            have hR0 : ap w imm none (rows.take n) b base (E.info e).size S' := ap.take n rows base S' g6
            have hR : ap w imm none (rows.take n) b p (E.info e).size S' := by
              rcases Nat.eq_zero_or_pos n with h0 | h0
              · subst h0; simp [ap]
              · rcases i4 with i4 | ⟨i4, _⟩
                · omega
                · rw [i4]; simpa using hR0
            obtain ⟨hc, hwide⟩ := hR.cells
            obtain ⟨us1, hl, hcell, hv⟩ := ag.vals _ _ _ hc
            have hlen : (rows.take n).length = n := by simp; omega
            refine fin (us1 := us1) (T1 := S') hx0 { cells := fun w' hw' => ?_, vals := hv, wide := hwide, len := hlen, lies := .inr ⟨b, p, size, κ, rfl, by simp, g1, g4, ?_, i3, g2, hR, i1⟩, sub := fun q hq => ⟨κ, by simp, g3 q hq⟩ }
            · have hrun := dI (P := P) b p w' us1 0 #[] (fun j hj => by rw [show p + 0 + j = p + j by omega, cell?_same (w := w) (w' := w') (by rw [hw'])]; exact hcell j hj)
              simp only [Builtin.firstCells, loadCells]
              rw [show n * (E.info e).size = us1.length by rw [hl, dv hwide, hlen]]
              simpa using hrun
            · rcases i4 with rfl | ⟨_, i4⟩
              · simpa using i3
              · rw [← h2]; exact i4
        · exact hk2.elim
      · exact hk2.elim
    · exact hk'.elim
  · exact hk.elim
end
end Go.Vm
/- What is handed on in a call: taken or frozen. -/
namespace Go.Vm
section
variable {P : Program} {E : TE} {Fn : FuncId → List A → List A → A → Prop} {LW : Code → (Ex → St → Prop) → St → Prop} {IN : InT} {w : World}

theorem fa : ∀ rows : Rows, (aH rows).length = rows.length
  | [] => rfl
  | r :: rs => by simp [aH, fa rs]
theorem nz : ∀ cs : List A, (bT cs).length = cs.length
  | [] => rfl
  | r :: rs => by simp [bT, nz rs]
mutual
theorem CR.freeze {imm imm' : Set} (hi : Set.le imm imm') : ∀ (a : A) (v : Value) (S : Set), CR w imm none a v S → Set.le S imm' → CR w imm' none (fz a) v Set.no
  | .lit _, v, S, h, _ => by simp only [fz, CR] at h ⊢; exact h
  | .emp, v, S, h, _ => by simp only [fz, CR] at h ⊢; exact h
  | .tree rows, v, S, h, _ => by
    simp only [fz]
    exact CR.stable hi (fun _ _ => rfl) none none _ _ _ _ trivial (Set.le_refl _) (fun _ _ => rfl) (by simp only [CR] at h ⊢; exact h)
  | .inl k rows, v, S, h, hS => by
    simp only [fz, CR] at h ⊢
    obtain ⟨a, cap, e, h⟩ := h
    rcases h with ⟨rfl, rfl, rfl⟩ | ⟨b, o, size, S', rfl, h1, h2, h3, h4, h5, h6, h7, h8⟩
    · exact ⟨none, 0, e, Nat.le_refl _, .inl rfl⟩
    · refine ⟨_, cap, by rw [fa]; exact e, by rw [fa]; exact h7, .inr ⟨b, o, k, rfl, hS b h1, ap.freeze hi rows b o k S' h8 (Set.le_trans h3 hS)⟩⟩
  | .obox _, v, S, _, _ => by simp only [fz, CR]
  | .optr _ _ _, v, S, _, _ => by simp only [fz, CR]
  | .ref .., v, S, h, _ => by simp only [CR] at h
  | .mptr .., v, S, h, _ => by simp only [CR] at h
  | .iptr r o, v, S, h, _ => by
    simp only [fz]
    exact CR.stable hi (fun _ _ => rfl) none none _ _ _ _ trivial (Set.le_refl _) (fun _ _ => rfl) (by simp only [CR] at h ⊢; exact h)
  | .agg cs, v, S, h, hS => by
    simp only [fz, CR] at h ⊢
    obtain ⟨vs, e, hr⟩ := h
    exact ⟨vs, e, ae.freeze hi cs vs S hr hS⟩
  | .tup cs, v, S, h, hS => by
    simp only [fz, CR] at h ⊢
    obtain ⟨vs, e, hr⟩ := h
    exact ⟨vs, e, ae.freeze hi cs vs S hr hS⟩
  | .clo f cs, v, S, h, _ => by
    simp only [fz]
    exact CR.stable hi (fun _ _ => rfl) none none _ _ _ _ trivial (Set.le_refl _) (fun _ _ => rfl) (by simp only [CR] at h ⊢; exact h)
  | .hole, v, S, _, _ => by simp only [fz, CR]
theorem ae.freeze {imm imm' : Set} (hi : Set.le imm imm') : ∀ (cs : List A) (vs : List Value) (S : Set), ae w imm none cs vs S → Set.le S imm' → ae w imm' none (bT cs) vs Set.no
  | [], [], _, _, _ => by simp only [bT, ae]
  | [], _ :: _, _, h, _ => by simp only [ae] at h
  | _ :: _, [], _, h, _ => by simp only [ae] at h
  | c :: cs, v :: vs, S, h, hS => by
    simp only [bT, ae] at h ⊢
    obtain ⟨S1, S2, h1, h2, h3, h4, _⟩ := h
    exact ⟨Set.no, Set.no, CR.freeze hi c v S1 h1 (Set.le_trans h3 hS), ae.freeze hi cs vs S2 h2 (Set.le_trans h4 hS), Set.le_refl _, Set.le_refl _, Set.no_dis _⟩
theorem ag.freeze {imm imm' : Set} (hi : Set.le imm imm') : ∀ (cs : List A) (b o : Nat) (S : Set), ag w imm none cs b o S → Set.le S imm' → ag w imm' none (bT cs) b o Set.no
  | [], _, _, _, _, _ => by simp only [bT, ag]
  | c :: cs, b, o, S, h, hS => by
    simp only [bT, ag] at h ⊢
    obtain ⟨v, S1, S2, h0, h1, h2, h3, h4, _⟩ := h
    exact ⟨v, Set.no, Set.no, h0, CR.freeze hi c v S1 h1 (Set.le_trans h3 hS), ag.freeze hi cs b (o + 1) S2 h2 (Set.le_trans h4 hS), Set.le_refl _, Set.le_refl _, Set.no_dis _⟩
theorem ap.freeze {imm imm' : Set} (hi : Set.le imm imm') : ∀ (rs : Rows) (b o k : Nat) (S : Set), ap w imm none rs b o k S → Set.le S imm' → ap w imm' none (aH rs) b o k Set.no
  | [], _, _, _, _, _, _ => by simp only [aH, ap]
  | r :: rs, b, o, k, S, h, hS => by
    simp only [aH, ap] at h ⊢
    obtain ⟨S1, S2, h0, h1, h2, h3, h4, _⟩ := h
    exact ⟨Set.no, Set.no, by rw [nz]; exact h0, ag.freeze hi r b o S1 h1 (Set.le_trans h3 hS), ap.freeze hi rs b (o + k) k S2 h2 (Set.le_trans h4 hS), Set.le_refl _, Set.le_refl _, Set.no_dis _⟩
end

/-- nodes on the way through a call, as they were known before it: dead, or what they are -/
structure c7 (σ : St) (Λ : Lam) (Pool : Set) (σ1 : St) (w : World) (imm : Set) (F : Key → Set) : Prop where
  slots : ∀ t, lkS σ1.slots t = lkS σ.slots t
  nodes : ∀ κ : Key, lkN σ1.heap κ.1 κ.2 = .dead (Λ κ).gen ∨ NR w imm Λ (Λ κ) (lkN σ1.heap κ.1 κ.2) (F κ)
  dis : ∀ κ κ', κ ≠ κ' → Set.dis (F κ) (F κ')
  fimm : ∀ κ, Set.dis (F κ) imm
  pool : ∀ κ b, F κ b → Pool b
/-- what is in no node's hand -/
structure cg (F : Key → Set) (imm Pool : Set) (S : Set) : Prop where
  dis : ∀ κ, Set.dis S (F κ)
  imm : Set.dis S imm
  pool : Set.le S Pool
theorem cg.no {F : Key → Set} {imm Pool : Set} : cg F imm Pool Set.no := ⟨fun _ => Set.no_dis _, Set.no_dis _, Set.no_le _⟩
theorem cg.le {F : Key → Set} {imm Pool S T : Set} (h : cg F imm Pool S) (hT : Set.le T S) : cg F imm Pool T :=
  ⟨fun κ => Set.dis_le (h.dis κ) hT (Set.le_refl _), Set.dis_le h.imm hT (Set.le_refl _), Set.le_trans hT h.pool⟩

/-- the operands that are lent, and what they were known to be -/
def bM (w : World) (Λ : Lam) : List A → List A → Prop
  | .ref κ g i n :: as, .inl k _ :: ds => ((Λ κ).gen = g ∧ (Λ κ).k = k ∧ (Λ κ).n = n ∧ i = 0 ∧ (Λ κ).loc ≠ .gone ∧ ∀ b base size, (Λ κ).loc = .at_ b base size → Own w b size ∧ base + (Λ κ).n * (Λ κ).k ≤ size) ∧ bM w Λ as ds
  | .mptr κ g i off :: as, .obox cells :: ds => ((Λ κ).gen = g ∧ (Λ κ).k = cells.length ∧ (Λ κ).n = 1 ∧ i = 0 ∧ off = 0 ∧ (Λ κ).loc ≠ .gone ∧ ∀ b base size, (Λ κ).loc = .at_ b base size → Own w b size ∧ base + (Λ κ).n * (Λ κ).k ≤ size) ∧ bM w Λ as ds
  | .mptr κ g i off :: as, .optr k rows j :: ds => ((Λ κ).gen = g ∧ (Λ κ).k = k ∧ (Λ κ).n = rows.length ∧ j = i ∧ off = 0 ∧ (Λ κ).loc ≠ .gone ∧ ∀ b base size, (Λ κ).loc = .at_ b base size → Own w b size ∧ base + (Λ κ).n * (Λ κ).k ≤ size) ∧ bM w Λ as ds
  | .agg cs :: as, .agg es :: ds => bM w Λ cs es ∧ bM w Λ as ds
  | _ :: as, _ :: ds => bM w Λ as ds
  | _, _ => True

variable {σ σ1 : St} {Λ : Lam} {Pool imm imm1 : Set} {F1 F : Key → Set}

theorem c7.wider (h : c7 σ Λ Pool σ1 w imm1 F1) {S imm2 : Set} (hS : cg F1 imm1 Pool S) (h2 : ∀ b, imm2 b ↔ imm1 b ∨ S b) : c7 σ Λ Pool σ1 w imm2 F1 where
  slots := h.slots
  nodes κ := (h.nodes κ).imp id fun hN => NR.stable (fun b hb => (h2 b).2 (.inl hb)) (fun _ _ => rfl) (fun _ _ => rfl) (bi.refl Λ) hN
  dis := h.dis
  fimm κ b hb hi := by
    rcases (h2 b).1 hi with h' | h'
    · exact h.fimm κ b hb h'
    · exact hS.dis κ b h' hb
  pool := h.pool
/-- one node is taken out of the nodes' hands -/
theorem c7.kill (h : c7 σ Λ Pool σ1 w imm1 F1) (κ : Key) {g : Nat} (hg : (Λ κ).gen = g) : c7 σ Λ Pool (σ1.upd [.n κ (.dead g)]) w imm1 (up F1 κ Set.no) ∧ cg (up F1 κ Set.no) imm1 Pool (F1 κ) := by
  refine ⟨⟨h.slots, fun x => ?_, fun x y hxy => ?_, fun x => ?_, fun x b hb => ?_⟩, ⟨fun x => ?_, h.fimm κ, h.pool κ⟩⟩
  · show lkN ((κ, HN.dead g) :: σ1.heap) x.1 x.2 = _ ∨ NR _ _ _ _ (lkN ((κ, HN.dead g) :: σ1.heap) x.1 x.2) _
    rw [aZ]
    by_cases e : x = κ
    · subst e; rw [if_pos rfl, hg]; exact .inl rfl
    · rw [if_neg e, aO _ _ e]; exact h.nodes x
  · by_cases e : x = κ
    · subst e; rw [ax]; exact Set.no_dis _
    · rw [aO _ _ e]
      by_cases e' : y = κ
      · subst e'; rw [ax]; exact fun _ _ z => z
      · rw [aO _ _ e']; exact h.dis x y hxy
  · by_cases e : x = κ
    · subst e; rw [ax]; exact Set.no_dis _
    · rw [aO _ _ e]; exact h.fimm x
  · by_cases e : x = κ
    · subst e; rw [ax] at hb; exact hb.elim
    · rw [aO _ _ e] at hb; exact h.pool x b hb
  · by_cases e : x = κ
    · subst e; rw [ax]; exact fun _ _ z => z
    · rw [aO _ _ e]; exact h.dis κ x (fun z => e z.symm)
/-- a node is known anew -/
theorem c7.set (h : c7 σ Λ Pool σ1 w imm1 F1) (κ : Key) {n : HN} {S : Set} (hS : cg (up F1 κ Set.no) imm1 Pool S) (hN : NR w imm1 Λ (Λ κ) n S) : c7 σ Λ Pool (σ1.upd [.n κ n]) w imm1 (up F1 κ S) := by
  refine ⟨h.slots, fun x => ?_, fun x y hxy => ?_, fun x => ?_, fun x b hb => ?_⟩
  · show lkN ((κ, n) :: σ1.heap) x.1 x.2 = _ ∨ NR _ _ _ _ (lkN ((κ, n) :: σ1.heap) x.1 x.2) _
    rw [aZ]
    by_cases e : x = κ
    · subst e; rw [if_pos rfl, ax]; exact .inr hN
    · rw [if_neg e, aO _ _ e]; exact h.nodes x
  · have key : ∀ y, y ≠ κ → Set.dis S (F1 y) := fun y e => by have := hS.dis y; rwa [aO _ _ e] at this
    by_cases e : x = κ
    · subst e
      rw [ax, aO _ _ (fun z => hxy z.symm)]
      exact key y (fun z => hxy z.symm)
    · rw [aO _ _ e]
      by_cases e' : y = κ
      · subst e'; rw [ax]; exact fun b h1 h2 => key x e b h2 h1
      · rw [aO _ _ e']; exact h.dis x y hxy
  · by_cases e : x = κ
    · subst e; rw [ax]; exact hS.imm
    · rw [aO _ _ e]; exact h.fimm x
  · by_cases e : x = κ
    · subst e; rw [ax] at hb; exact hS.pool b hb
    · rw [aO _ _ e] at hb; exact h.pool x b hb

/-- a stretch of a frozen row -/
theorem qA {i : KI} {g j n : Nat} {u : Value} {rows : Rows} {b base size : Nat} (hr : da i g j n u) (hg : i.gen = g) (hl : i.loc = .at_ b base size) (hn : j + n ≤ rows.length) (hb : imm b) (hR : ap w imm none rows b base i.k Set.no) :
    CR w imm none (.tree ((rows.drop j).take n)) u Set.no := by
  have h3 := hr.2.1 hg.symm
  rw [hl] at h3
  obtain ⟨o, cap, rfl, h1, h2, h4, h5⟩ := h3
  simp only [CR]
  have hlen : ((rows.drop j).take n).length = n := by simp; omega
  refine ⟨_, cap, by rw [hlen], by rw [hlen]; exact h1, ?_⟩
  rcases Nat.eq_zero_or_pos n with h0 | h0
  · subst h0; left; simp
  · right
    rcases h5 with h5 | ⟨h5, _⟩
    · omega
    · exact ⟨b, o, i.k, rfl, hb, by rw [h5]; exact ap.take n _ _ _ (ap.drop j rows base hR)⟩
theorem sC {i : KI} {g j n : Nat} {u : Value} (hr : da i g j n u) (hg : i.gen = g) (hl : i.loc = .nil) (rows : Rows) : CR w imm none (.tree ((rows.drop j).take n)) u Set.no := by
  have h3 := hr.2.1 hg.symm
  rw [hl] at h3
  obtain ⟨_, rfl, rfl⟩ := h3
  simp only [CR]
  exact ⟨none, 0, by simp, by simp, .inl (by simp)⟩

def Out (σ : St) (Λ : Lam) (Pool : Set) (w : World) (σ1 : St) (imm1 : Set) (F1 : Key → Set) (S0 : Set) (us : List Value) (xs : List A) (m : Mode) (f : List A → Pg) (K : List W → Prop) : Prop :=
  ∃ ws ds imm2 F2 S, (f ds).holds (σ1.upd ws) (fun ws2 => K (ws ++ ws2)) ∧ c7 σ Λ Pool (σ1.upd ws) w imm2 F2 ∧ Set.le imm1 imm2 ∧ ae w imm2 none ds us S ∧ cg F2 imm2 Pool S ∧
    (∀ b, imm2 b → imm1 b ∨ S0 b ∨ ∃ κ, F1 κ b) ∧ (∀ κ b, F2 κ b → F1 κ b) ∧ (∀ b, S b → S0 b ∨ ∃ κ, F1 κ b) ∧ (m ≠ .own → ∀ b, ¬ S b) ∧ bM w Λ xs ds

theorem dZ {n : Nat} (ih : ∀ (m : Mode) (xs : List A) (us : List Value) (f : List A → Pg) (σ1 : St) (imm1 : Set) (F1 : Key → Set) (S0 : Set) (K : List W → Prop), c7 σ Λ Pool σ1 w imm1 F1 → ae w imm1 (some Λ) xs us S0 → cg F1 imm1 Pool S0 →
      (bE (aq Fn LW IN) n m xs f).holds σ1 K → Out σ Λ Pool w σ1 imm1 F1 S0 us xs m f K)
    {m : Mode} {x : A} {xs : List A} {u : Value} {us : List Value} {f : List A → Pg} {K : List W → Prop} {S0 S1 S2 : Set} (hv : ae w imm1 (some Λ) xs us S2) (hH : cg F1 imm1 Pool S0) (h1 : Set.le S1 S0) (h2 : Set.le S2 S0) (h12 : Set.dis S1 S2)
    (c : A) (ws0 : List W) {imm' : Set} {F' : Key → Set} {Sx : Set} (hP : c7 σ Λ Pool (σ1.upd ws0) w imm' F') (hi : Set.le imm1 imm') (hc : CR w imm' none c u Sx) (hHx : cg F' imm' Pool Sx) (hi2 : ∀ b, imm' b → imm1 b ∨ S1 b ∨ ∃ κ, F1 κ b)
    (hF : ∀ κ b, F' κ b → F1 κ b) (hSx : ∀ b, Sx b → S1 b ∨ ∃ κ, F1 κ b) (hm : m ≠ .own → ∀ b, ¬ Sx b) (hL : ∀ ds, bM w Λ xs ds → bM w Λ (x :: xs) (c :: ds))
    (hh : (bE (aq Fn LW IN) n m xs fun as => f (c :: as)).holds (σ1.upd ws0) (fun ws2 => K (ws0 ++ ws2))) : Out σ Λ Pool w σ1 imm1 F1 S0 (u :: us) (x :: xs) m f K := by
  have hH2 : cg F' imm' Pool S2 := ⟨fun κ b hb hb2 => hH.dis κ b (h2 b hb) (hF κ b hb2), fun b hb hb2 => by
      rcases hi2 b hb2 with h | h | ⟨κ, h⟩
      · exact hH.imm b (h2 b hb) h
      · exact h12 b h hb
      · exact hH.dis κ b (h2 b hb) h, Set.le_trans h2 hH.pool⟩
  obtain ⟨ws, ds, imm2, F2, S, r1, r2, r3, r4, r5, r6, r7, r8, r9, r10⟩ := ih m xs us _ (σ1.upd ws0) imm' F' S2 _ hP (ae.stable hi (fun _ _ => rfl) _ _ _ _ _ _ (bi?.refl _) (Set.le_refl _) (fun _ _ => rfl) hv) hH2 hh
  have hxS : Set.dis Sx S := fun b hb hb2 => by
    rcases r8 b hb2 with h | ⟨κ, h⟩
    · rcases hSx b hb with h' | ⟨κ, h'⟩
      · exact h12 b h' h
      · exact hH.dis κ b (h2 b h) h'
    · exact hHx.dis κ b hb h
  refine ⟨ws0 ++ ws, c :: ds, imm2, F2, fun b => Sx b ∨ S b, ?_, by rw [ba]; exact r2, Set.le_trans hi r3, ?_, ⟨fun κ b hb hb2 => ?_, fun b hb hb2 => ?_, fun b hb => hb.elim (hHx.pool b) (r5.pool b)⟩, fun b hb => ?_, fun κ b hb => hF κ b (r7 κ b hb), fun b hb => ?_, fun hmm b hb => hb.elim (hm hmm b) (r9 hmm b), hL ds r10⟩
  · rw [ba]
    simpa only [List.append_assoc] using r1
  · simp only [ae]
    exact ⟨Sx, S, CR.stable r3 (fun _ _ => rfl) none none _ _ _ _ trivial (Set.le_refl _) (fun _ _ => rfl) hc, r4, fun b hb => .inl hb, fun b hb => .inr hb, hxS⟩
  · rcases hb with hb | hb
    · exact hHx.dis κ b hb (r7 κ b hb2)
    · exact r5.dis κ b hb hb2
  · rcases hb with hb | hb
    · rcases r6 b hb2 with h | h | ⟨κ, h⟩
      · exact hHx.imm b hb h
      · rcases hSx b hb with h' | ⟨κ, h'⟩
        · exact h12 b h' h
        · exact hH.dis κ b (h2 b h) h'
      · exact hHx.dis κ b hb h
    · exact r5.imm b hb hb2
  · rcases r6 b hb with h | h | ⟨κ, h⟩
    · rcases hi2 b h with h' | h' | h'
      · exact .inl h'
      · exact .inr (.inl (h1 b h'))
      · exact .inr (.inr h')
    · exact .inr (.inl (h2 b h))
    · exact .inr (.inr ⟨κ, hF κ b h⟩)
  · rcases hb with hb | hb
    · exact (hSx b hb).imp (h1 b) id
    · rcases r8 b hb with h | ⟨κ, h⟩
      · exact .inl (h2 b h)
      · exact .inr ⟨κ, hF κ b h⟩

theorem pp : ∀ (n : Nat) (m : Mode) (xs : List A) (us : List Value) (f : List A → Pg) (σ1 : St) (imm1 : Set) (F1 : Key → Set) (S0 : Set) (K : List W → Prop), c7 σ Λ Pool σ1 w imm1 F1 → ae w imm1 (some Λ) xs us S0 → cg F1 imm1 Pool S0 →
      (bE (aq Fn LW IN) n m xs f).holds σ1 K → Out σ Λ Pool w σ1 imm1 F1 S0 us xs m f K
  | 0, m, xs, us, f, σ1, imm1, F1, S0, K, hP, hv, hH, hh => by cases xs <;> cases m <;> exact hh.elim
  | n + 1, m, [], us, f, σ1, imm1, F1, S0, K, hP, hv, hH, hh => by
    cases us with
    | nil => exact ⟨[], [], imm1, F1, Set.no, hh, hP, Set.le_refl _, by simp only [ae], cg.no, fun b hb => .inl hb, fun _ _ h => h, fun _ z => z.elim, fun _ _ z => z, by simp only [bM]⟩
    | cons => simp only [ae] at hv
  | n + 1, m, x :: xs, [], f, σ1, imm1, F1, S0, K, hP, hv, hH, hh => by simp only [ae] at hv
  | n + 1, m, x :: xs, u :: us, f, σ1, imm1, F1, S0, K, hP, hv, hH, hh => by
    simp only [ae] at hv
    obtain ⟨S1, S2, hx, hv, h1, h2, h12⟩ := hv
    have ih := fun m xs us f σ1 imm1 F1 S0 K => pp n m xs us f σ1 imm1 F1 S0 K
    -- nothing is written, nothing taken
    have keep : ∀ (c : A), CR w imm1 none c u Set.no → (∀ ds, bM w Λ xs ds → bM w Λ (x :: xs) (c :: ds)) → (bE (aq Fn LW IN) n m xs fun as => f (c :: as)).holds σ1 K → Out σ Λ Pool w σ1 imm1 F1 S0 (u :: us) (x :: xs) m f K :=
      fun c hc hL hh => dZ ih hv hH h1 h2 h12 c [] hP (Set.le_refl _) hc cg.no (fun b hb => .inl hb) (fun _ _ h => h) (fun _ z => z.elim) (fun _ _ z => z) hL hh
    by_cases hsk : m = .skip
    · subst hsk
      exact keep .hole (by simp only [CR]) (fun ds h => by cases x <;> simpa [bM] using h) hh
    by_cases hraw : m = .raw
    · subst hraw
      cases x with
      | lit v =>
        have hu := bo hx
        subst hu
        exact keep (.lit u) (by simp only [CR]) (fun ds h => by simpa [bM] using h) hh
      | _ => exact hh.elim
    have hvo : m = .val ∨ m = .own := by cases m <;> simp at hsk hraw ⊢
    have hex : (bE (aq Fn LW IN) (n + 1) m (x :: xs) f).holds σ1 K := hh
    cases x with
    | lit v =>
      have hu := bo hx
      subst hu
      have plainly : (bE (aq Fn LW IN) n m xs fun as => f (.lit u :: as)).holds σ1 K → Out σ Λ Pool w σ1 imm1 F1 S0 (u :: us) (.lit u :: xs) m f K := fun hh => keep (.lit u) (by simp only [CR]) (fun ds h => by simpa [bM] using h) hh
      by_cases hnil : u = .slice none 0 0
      · subst hnil
        rcases hvo with rfl | rfl
        · exact keep (.tree []) (by simp only [CR]; exact ⟨none, 0, rfl, Nat.le_refl _, .inl trivial⟩) (fun ds h => by simpa [bM] using h) hh
        · obtain ⟨k, hh⟩ := hh
          exact keep (.inl k []) (by simp only [CR]; exact ⟨none, 0, rfl, .inl (by simp)⟩) (fun ds h => by simpa [bM] using h) hh
      · refine plainly ?_
        rcases hvo with rfl | rfl <;>
        · simp only [bE] at hh
          exact hh
    | emp =>
      rcases hvo with rfl | rfl
      · refine keep (.tree []) ?_ (fun ds h => by simpa [bM] using h) hh
        simp only [CR] at hx ⊢
        obtain ⟨ad, e⟩ := hx
        exact ⟨ad, 0, e, Nat.le_refl _, .inl trivial⟩
      · refine keep .emp ?_ (fun ds h => by simpa [bM] using h) hh
        simp only [CR] at hx ⊢
        exact hx
    | tree rows =>
      refine keep (.tree rows) (by simp only [CR] at hx ⊢; exact hx) (fun ds h => by simpa [bM] using h) ?_
      rcases hvo with rfl | rfl <;> exact hh
    | iptr row off =>
      refine keep (.iptr row off) (by simp only [CR] at hx ⊢; exact hx) (fun ds h => by simpa [bM] using h) ?_
      rcases hvo with rfl | rfl <;> exact hh
    | hole => rcases hvo with rfl | rfl <;> exact hh.elim
    | obox => rcases hvo with rfl | rfl <;> exact hh.elim
    | optr => rcases hvo with rfl | rfl <;> exact hh.elim
    | inl k rows =>
      have hx' : CR w imm1 none (.inl k rows) u S1 := by simp only [CR] at hx ⊢; exact hx
      rcases hvo with rfl | rfl
      · have hH1 := hH.le h1
        refine dZ ih hv hH h1 h2 h12 (.tree (aH rows)) [] (imm' := fun b => imm1 b ∨ S1 b) (hP.wider hH1 (fun _ => Iff.rfl)) (fun b hb => .inl hb) ?_ cg.no (fun b hb => hb.imp id .inl) (fun _ _ h => h) (fun _ z => z.elim) (fun _ _ z => z) (fun ds h => by simpa [bM] using h) hh
        have := CR.freeze (imm' := fun b => imm1 b ∨ S1 b) (fun b hb => .inl hb) _ _ _ hx' (fun b hb => .inr hb)
        simpa only [fz] using this
      · exact dZ ih hv hH h1 h2 h12 (.inl k rows) [] hP (Set.le_refl _) hx' (hH.le h1) (fun b hb => .inl hb) (fun _ _ h => h) (fun _ z => .inl z) (fun z => absurd rfl z) (fun ds h => by simpa [bM] using h) hh
    | agg cs =>
      have hh' : (bE (aq Fn LW IN) n m cs fun cs' => bE (aq Fn LW IN) n m xs fun as => f (.agg cs' :: as)).holds σ1 K := by rcases hvo with rfl | rfl <;> exact hh
      simp only [CR] at hx
      obtain ⟨vs, rfl, hx⟩ := hx
      obtain ⟨ws, ds, imm2, F2, S, r1, r2, r3, r4, r5, r6, r7, r8, r9, r10⟩ := ih m cs vs _ σ1 imm1 F1 S1 K hP hx (hH.le h1) hh'
      exact dZ ih hv hH h1 h2 h12 (.agg ds) ws r2 r3 (by simp only [CR]; exact ⟨vs, rfl, r4⟩) r5 r6 r7 r8 r9 (fun ds h => by simp only [bM]; exact ⟨r10, h⟩) r1
    | tup cs =>
      have hh' : (bE (aq Fn LW IN) n m cs fun cs' => bE (aq Fn LW IN) n m xs fun as => f (.tup cs' :: as)).holds σ1 K := by rcases hvo with rfl | rfl <;> exact hh
      simp only [CR] at hx
      obtain ⟨vs, rfl, hx⟩ := hx
      obtain ⟨ws, ds, imm2, F2, S, r1, r2, r3, r4, r5, r6, r7, r8, r9, _⟩ := ih m cs vs _ σ1 imm1 F1 S1 K hP hx (hH.le h1) hh'
      exact dZ ih hv hH h1 h2 h12 (.tup ds) ws r2 r3 (by simp only [CR]; exact ⟨vs, rfl, r4⟩) r5 r6 r7 r8 r9 (fun ds h => by simpa [bM] using h) r1
    | clo g cs =>
      have hh' : (bE (aq Fn LW IN) n .val cs fun cs' => bE (aq Fn LW IN) n m xs fun as => f (.clo g cs' :: as)).holds σ1 K := by rcases hvo with rfl | rfl <;> exact hh
      simp only [CR] at hx
      obtain ⟨vs, rfl, hx⟩ := hx
      obtain ⟨ws, ds, imm2, F2, S, r1, r2, r3, r4, r5, r6, r7, r8, r9, _⟩ := ih .val cs vs _ σ1 imm1 F1 Set.no K hP hx cg.no hh'
      have hS : Set.le S Set.no := fun b hb => r9 (by simp) b hb
      exact dZ ih hv hH h1 h2 h12 (.clo g ds) ws r2 r3 (by simp only [CR]; exact ⟨vs, rfl, r4.mono hS⟩) (Sx := Set.no) cg.no (fun b hb => (r6 b hb).imp id (fun z => z.elim (fun y => y.elim) .inr)) r7 (fun _ z => z.elim) (fun _ _ z => z) (fun ds h => by simpa [bM] using h) r1
    | ref κ g i k =>
      simp only [CR] at hx
      have hN := hP.nodes κ
      have hh' : (Pg.gn κ fun h => match h with
        | .farr g' _ rows => if g = g' then .need (i + k ≤ rows.length) (bE (aq Fn LW IN) n m xs fun as => f (.tree ((aq Fn LW IN).part rows i k) :: as)) else .fail
        | .arr g' s rows => match m with
          | .own => if g = g' ∧ i = 0 then .need (k = rows.length) (.wr [.n κ (.dead g')] (bE (aq Fn LW IN) n m xs fun as => f (.inl s rows :: as))) else .fail
          | _ => if g = g' then .need (i + k ≤ rows.length) (.wr [.n κ (.farr g' s ((aq Fn LW IN).fz rows))] (bE (aq Fn LW IN) n m xs fun as => f (.tree ((aq Fn LW IN).part ((aq Fn LW IN).fz rows) i k) :: as))) else .fail
        | _ => .fail).holds σ1 K := by rcases hvo with rfl | rfl <;> exact hh
      simp only [Pg.holds] at hh'
      generalize lkN σ1.heap κ.1 κ.2 = nd at hN hh'
      have lentTree : ∀ {rows : Rows} (ds : List A), bM w Λ xs ds → bM w Λ (.ref κ g i k :: xs) (.tree rows :: ds) := fun ds h => by simpa [bM] using h
      split at hh'
      · rename_i g' s rows
        split at hh'
        · rename_i hg
          subst hg
          obtain ⟨hn, hh'⟩ := hh'
          rcases hN with hN | hN
          · cases hN
          · obtain ⟨q1, q2, q3, q4⟩ := hN
            refine keep _ ?_ lentTree hh'
            rcases q4 with ⟨e, rfl⟩ | ⟨b, base, size, e, q5, q6⟩
            · exact sC hx q1 e _
            · exact qA hx q1 e hn q5 (by rw [q2]; exact q6)
        · exact hh'.elim
      · rename_i g' s rows
        rcases hN with hN | hN
        · cases hN
        have hN' := hN
        obtain ⟨q1, q2, q3, q4⟩ := hN
        rcases hvo with rfl | rfl
        · simp only at hh'
          split at hh'
          · rename_i hg
            subst hg
            obtain ⟨hn, hh'⟩ := hh'
            obtain ⟨hPk, hHk⟩ := hP.kill κ q1
            have hPw := hPk.wider (imm2 := fun b => imm1 b ∨ F1 κ b) hHk (fun _ => Iff.rfl)
            have hNf : NR w (fun b => imm1 b ∨ F1 κ b) Λ (Λ κ) (.farr g s (aH rows)) Set.no := by
              refine ⟨q1, q2, by rw [fa]; exact q3, ?_⟩
              rcases q4 with ⟨e, rfl⟩ | ⟨b, base, size, S', e, q5, q6, q7, q8, q9, q10⟩
              · exact .inl ⟨e, rfl⟩
              · exact .inr ⟨b, base, size, e, .inr q5, ap.freeze (fun b hb => .inl hb) rows b base s S' q10 (fun b hb => .inr (q7 b hb))⟩
            have hP2 : c7 σ Λ Pool (σ1.upd [.n κ (.farr g s (aH rows))]) w (fun b => imm1 b ∨ F1 κ b) (up F1 κ Set.no) := by
              have := hPw.set κ (n := .farr g s (aH rows)) (S := Set.no) cg.no hNf
              refine ⟨hP.slots, fun x => ?_, fun x y hxy => ?_, fun x => ?_, fun x b hb => ?_⟩
              · have h' := this.nodes x
                have e1 : up (up F1 κ Set.no) κ Set.no x = up F1 κ Set.no x := by unfold up; split <;> rfl
                rw [e1] at h'
                have e2 : lkN ((σ1.upd [.n κ (.dead g)]).upd [.n κ (.farr g s (aH rows))]).heap x.1 x.2 = lkN (σ1.upd [.n κ (.farr g s (aH rows))]).heap x.1 x.2 := by
                  show lkN ((κ, _) :: (κ, _) :: σ1.heap) x.1 x.2 = lkN ((κ, _) :: σ1.heap) x.1 x.2
                  rw [aZ, aZ, aZ]; split <;> rfl
                rw [e2] at h'
                exact h'
              · exact hPw.dis x y hxy
              · exact hPw.fimm x
              · exact hPw.pool x b hb
            refine dZ ih hv hH h1 h2 h12 _ [.n κ (.farr g s (aH rows))] hP2 (fun b hb => .inl hb) (Sx := Set.no) ?_ cg.no (fun b hb => hb.imp id (fun z => .inr ⟨κ, z⟩)) (fun x b hb => ?_) (fun _ z => z.elim) (fun _ _ z => z) lentTree hh'
            · obtain ⟨f1, f2, f3, f4⟩ := hNf
              rcases f4 with ⟨e, e2⟩ | ⟨b, base, size, e, f5, f6⟩
              · exact sC hx q1 e _
              · exact qA hx q1 e (by rw [show (aq Fn LW IN).fz rows = aH rows from rfl, fa]; exact hn) f5 (by rw [q2]; exact f6)
            · by_cases e : x = κ
              · subst e; rw [ax] at hb; exact hb.elim
              · rw [aO _ _ e] at hb; exact hb
          · exact hh'.elim
        · simp only at hh'
          split at hh'
          · rename_i hg
            obtain ⟨rfl, rfl⟩ := hg
            obtain ⟨hn, hh'⟩ := hh'
            obtain ⟨hPk, hHk⟩ := hP.kill κ q1
            refine dZ ih hv hH h1 h2 h12 (.inl s rows) [.n κ (.dead g)] hPk (Set.le_refl _) (oY hN' hx hn) hHk (fun b hb => .inl hb) (fun x b hb => ?_) (fun b hb => .inr ⟨κ, hb⟩) (fun z => absurd rfl z) (fun ds h => ?_) hh'
            · by_cases e : x = κ
              · subst e; rw [ax] at hb; exact hb.elim
              · rw [aO _ _ e] at hb; exact hb
            · simp only [bM]
              refine ⟨⟨q1, q2, by rw [q3, hn], trivial, ?_, fun b base size e' => ?_⟩, h⟩
              · rcases q4 with ⟨e, _⟩ | ⟨_, _, _, _, e, _⟩ <;> rw [e] <;> simp
              · rcases q4 with ⟨e, _⟩ | ⟨b', base', size', _, e, _, _, _, ho, hfit, _⟩ <;> rw [e] at e' <;> cases e'
                exact ⟨ho, by rw [q3, q2]; exact hfit⟩
          · exact hh'.elim
      · exact hh'.elim
    | mptr κ g i off =>
      simp only [CR] at hx
      have hN := hP.nodes κ
      have hh' : (Pg.gn κ fun h => match h with
        | .fbox g' cells => if g = g' ∧ i = 0 then bE (aq Fn LW IN) n m xs fun as => f (.iptr cells off :: as) else .fail
        | .farr g' _ rows => if g = g' then .ex (List A) fun row => .need ((aq Fn LW IN).At rows i row) (bE (aq Fn LW IN) n m xs fun as => f (.iptr row off :: as)) else .fail
        | .box g' cells => match m with
          | .own => if g = g' ∧ i = 0 ∧ off = 0 then .wr [.n κ (.dead g')] (bE (aq Fn LW IN) n .own cells fun cs' => bE (aq Fn LW IN) n m xs fun as => f (.obox cs' :: as)) else .fail
          | _ => if g = g' ∧ i = 0 then .wr [.n κ (.dead g')] (bE (aq Fn LW IN) n .val cells fun cs' => .wr [.n κ (.fbox g' cs')] (bE (aq Fn LW IN) n m xs fun as => f (.iptr cs' off :: as))) else .fail
        | .arr g' k rows => match m with
          | .own => if g = g' ∧ off = 0 then .wr [.n κ (.dead g')] (bE (aq Fn LW IN) n m xs fun as => f (.optr k rows i :: as)) else .fail
          | _ => .fail
        | _ => .fail).holds σ1 K := by rcases hvo with rfl | rfl <;> exact hh
      simp only [Pg.holds] at hh'
      generalize lkN σ1.heap κ.1 κ.2 = nd at hN hh'
      have lentPtr : ∀ {row : List A} (ds : List A), bM w Λ xs ds → bM w Λ (.mptr κ g i off :: xs) (.iptr row off :: ds) := fun ds h => by simpa [bM] using h
      have upno : ∀ x b, up F1 κ Set.no x b → F1 x b := fun x b hb => by
        by_cases e : x = κ
        · subst e; rw [ax] at hb; exact hb.elim
        · rw [aO _ _ e] at hb; exact hb
      split at hh'
      · rename_i g' cells
        split at hh'
        · rename_i hg
          obtain ⟨rfl, rfl⟩ := hg
          rcases hN with hN | hN
          · cases hN
          · obtain ⟨q1, q2, q3, b, base, size, e, q5, q6⟩ := hN
            refine keep _ ?_ lentPtr hh'
            obtain ⟨b', base', size', e1, e2⟩ := c8.at hx q1 (by rw [e]; simp)
            rw [e] at e1; cases e1
            simp only [CR]
            exact ⟨b, base, by rw [e2]; simp, q5, q6⟩
        · exact hh'.elim
      · rename_i g' s rows
        split at hh'
        · rename_i hg
          subst hg
          obtain ⟨row, hrow, hh'⟩ := hh'
          rcases hN with hN | hN
          · cases hN
          · obtain ⟨q1, q2, q3, q4⟩ := hN
            refine keep _ ?_ lentPtr hh'
            replace hrow : rows[i]? = some row := hrow
            rcases q4 with ⟨e, rfl⟩ | ⟨b, base, size, e, q5, q6⟩
            · simp at hrow
            · obtain ⟨b', base', size', e1, e2⟩ := c8.at hx q1 (by rw [e]; simp)
              rw [e] at e1; cases e1
              simp only [CR]
              exact ⟨b, base + i * s, by rw [e2, q2], q5, (ap.at _ _ _ _ _ q6 hrow).2⟩
        · exact hh'.elim
      · rename_i g' cells
        rcases hN with hN | hN
        · cases hN
        obtain ⟨q1, q2, q3, b, base, size, S', e, q5, q6, q7, q8, q9, q10⟩ := hN
        have hgg : g = g' := by
          rcases hvo with rfl | rfl <;>
          · simp only at hh'
            split at hh'
            · rename_i hg; exact hg.1
            · exact hh'.elim
        obtain ⟨b', base', size', e1, e2⟩ := c8.at hx (q1.trans hgg.symm) (by rw [e]; simp)
        rw [e] at e1; cases e1
        obtain ⟨cvs, hcl, hcell, hcv⟩ := ag.vals _ _ _ q10
        -- the cells, out of the node's hand
        have inner : ∀ (m' : Mode) (f' : List A → Pg), g = g' → (bE (aq Fn LW IN) n m' cells f').holds (σ1.upd [.n κ (.dead g')]) (fun ws2 => K ([.n κ (.dead g')] ++ ws2)) →
            ∃ ws cs' imm2 F2 S, (f' cs').holds (σ1.upd ws) (fun ws2 => K (ws ++ ws2)) ∧ c7 σ Λ Pool (σ1.upd ws) w imm2 F2 ∧ Set.le imm1 imm2 ∧ ag w imm2 none cs' b base S ∧ cg F2 imm2 Pool (fun y => y = b ∨ S y) ∧
              (∀ b, imm2 b → imm1 b ∨ ∃ κ, F1 κ b) ∧ (∀ κ b, F2 κ b → F1 κ b) ∧ (∀ b, S b → ∃ κ, F1 κ b) ∧ (m' ≠ .own → ∀ b, ¬ S b) ∧ ¬ S b ∧ cs'.length = cells.length ∧ (∀ y, ¬ F2 κ y) := by
          rintro m' f' rfl hh
          obtain ⟨hPk, hHk⟩ := hP.kill κ q1
          have hSS : Set.le S' (F1 κ) := q7
          obtain ⟨ws, ds, imm2, F2, S, r1, r2, r3, r4, r5, r6, r7, r8, r9, _⟩ := ih m' cells cvs f' _ imm1 (up F1 κ Set.no) S' _ hPk hcv (hHk.le hSS) hh
          have hb2 : ¬ imm2 b := fun hb => by
            rcases r6 b hb with h | h | ⟨x, h⟩
            · exact hP.fimm κ b q5 h
            · exact q6 h
            · by_cases ex : x = κ
              · subst ex; rw [ax] at h; exact h.elim
              · rw [aO _ _ ex] at h; exact hP.dis x κ ex b h q5
          have hbF : ∀ x, ¬ F2 x b := fun x hb => by
            have h := r7 x b hb
            by_cases ex : x = κ
            · subst ex; rw [ax] at h; exact h.elim
            · rw [aO _ _ ex] at h; exact hP.dis x κ ex b h q5
          have hbS : ¬ S b := fun hb => by
            rcases r8 b hb with h | ⟨x, h⟩
            · exact q6 h
            · by_cases ex : x = κ
              · subst ex; rw [ax] at h; exact h.elim
              · rw [aO _ _ ex] at h; exact hP.dis x κ ex b h q5
          refine ⟨.n κ (.dead g) :: ws, ds, imm2, F2, S, r1, r2, r3, ag.of_vals r4 (fun j hj => ?_), ⟨fun x y hy hF => ?_, fun y hy hi => ?_, fun y hy => ?_⟩, fun y hy => ?_, fun x y hy => upno x y (r7 x y hy), fun y hy => ?_, r9, hbS, ?_, fun y hy => ?_⟩
          · exact hcell j hj
          · rcases hy with rfl | hy
            · exact hbF x hF
            · exact r5.dis x y hy hF
          · rcases hy with rfl | hy
            · exact hb2 hi
            · exact r5.imm y hy hi
          · rcases hy with rfl | hy
            · exact hP.pool κ y q5
            · exact r5.pool y hy
          · rcases r6 y hy with h | h | ⟨x, h⟩
            · exact .inl h
            · exact .inr ⟨κ, hSS y h⟩
            · exact .inr ⟨x, upno x y h⟩
          · rcases r8 y hy with h | ⟨x, h⟩
            · exact ⟨κ, hSS y h⟩
            · exact ⟨x, upno x y h⟩
          · rw [← r4.length, hcl]
          · have := r7 κ y hy; rw [ax] at this; exact this
        rcases hvo with rfl | rfl
        · simp only at hh'
          split at hh'
          · rename_i hg
            obtain ⟨rfl, rfl⟩ := hg
            obtain ⟨ws, cs', imm2, F2, S, r1, r2, r3, r4, r5, r6, r7, r8, r9, r10, r11, r12⟩ := inner .val _ rfl hh'
            have hSno : Set.le S Set.no := fun y hy => r9 (by simp) y hy
            have hHb : cg F2 imm2 Pool (Set.one b) := r5.le (fun y hy => .inl hy)
            have hPw := r2.wider (imm2 := fun y => imm2 y ∨ y = b) hHb (fun _ => Iff.rfl)
            have hNf : NR w (fun y => imm2 y ∨ y = b) Λ (Λ κ) (.fbox g cs') Set.no :=
              ⟨q1, by rw [r11]; exact q2, q3, b, base, size, e, .inr rfl, ag.stable (fun y hy => .inl hy) (fun _ _ => rfl) none none _ _ _ _ _ trivial hSno rfl (fun _ _ => rfl) r4⟩
            have hP2 := hPw.set κ (n := .fbox g cs') (S := Set.no) cg.no hNf
            refine dZ ih hv hH h1 h2 h12 (.iptr cs' off) (ws ++ [.n κ (.fbox g cs')]) (imm' := fun y => imm2 y ∨ y = b) (F' := up F2 κ Set.no) (by rw [ba]; exact hP2) (fun y hy => .inl (r3 y hy)) (Sx := Set.no) ?_ cg.no (fun y hy => ?_) (fun x y hy => ?_) (fun _ z => z.elim) (fun _ _ z => z) lentPtr ?_
            · simp only [CR]
              exact ⟨b, base, by rw [e2]; simp, .inr rfl, ag.stable (fun y hy => .inl hy) (fun _ _ => rfl) none none _ _ _ _ _ trivial hSno rfl (fun _ _ => rfl) r4⟩
            · rcases hy with hy | rfl
              · exact (r6 y hy).imp id .inr
              · exact .inr (.inr ⟨κ, q5⟩)
            · by_cases ex : x = κ
              · subst ex; rw [ax] at hy; exact hy.elim
              · rw [aO _ _ ex] at hy; exact r7 x y hy
            · rw [ba]
              simp only [List.append_assoc]
              exact r1
          · exact hh'.elim
        · simp only at hh'
          split at hh'
          · rename_i hg
            obtain ⟨rfl, rfl, rfl⟩ := hg
            obtain ⟨ws, cs', imm2, F2, S, r1, r2, r3, r4, r5, r6, r7, r8, r9, r10, r11, r12⟩ := inner .own _ rfl hh'
            refine dZ ih hv hH h1 h2 h12 (.obox cs') ws r2 r3 (Sx := fun y => y = b ∨ S y) ?_ r5 (fun y hy => (r6 y hy).imp id .inr) r7 (fun y hy => ?_) (fun z => absurd rfl z) (fun ds h => ?_) r1
            · simp only [CR]
              exact ⟨b, base, size, S, by rw [e2]; simp, .inl rfl, r10, fun y hy => .inr hy, q8, by rw [r11]; exact q9, r4⟩
            · rcases hy with rfl | hy
              · exact .inr ⟨κ, q5⟩
              · exact .inr (r8 y hy)
            · simp only [bM]
              exact ⟨⟨q1, by rw [r11]; exact q2, q3, trivial, trivial, by rw [e]; simp, fun b' base' size' e' => by rw [e] at e'; cases e'; exact ⟨q8, by rw [q3, q2, Nat.one_mul]; exact q9⟩⟩, h⟩
          · exact hh'.elim
      · rename_i g' k rows
        rcases hN with hN | hN
        · cases hN
        obtain ⟨q1, q2, q3, q4⟩ := hN
        rcases hvo with rfl | rfl
        · exact hh'.elim
        · simp only at hh'
          split at hh'
          · rename_i hg
            obtain ⟨rfl, rfl⟩ := hg
            rcases q4 with ⟨e, rfl⟩ | ⟨b, base, size, S', e, q5, q6, q7, q8, q9, q10⟩
            · have := hx.2.1 q1.symm
              rw [e] at this
              exact this.elim
            · obtain ⟨b', base', size', e1, e2⟩ := c8.at hx q1 (by rw [e]; simp)
              rw [e] at e1; cases e1
              obtain ⟨hPk, hHk⟩ := hP.kill κ q1
              refine dZ ih hv hH h1 h2 h12 (.optr k rows i) [.n κ (.dead g)] hPk (Set.le_refl _) ?_ hHk (fun b hb => .inl hb) upno (fun b hb => .inr ⟨κ, hb⟩) (fun z => absurd rfl z) (fun ds h => ?_) hh'
              · simp only [CR]
                exact ⟨b, base, size, S', by rw [e2, q2]; simp, q5, q6, q7, q8, q9, q10⟩
              · simp only [bM]
                exact ⟨⟨q1, q2, q3, trivial, trivial, by rw [e]; simp, fun b' base' size' e' => by rw [e] at e'; cases e'; exact ⟨q8, by rw [q3, q2]; exact q9⟩⟩, h⟩
          · exact hh'.elim
      · exact hh'.elim
end
end Go.Vm
/- Calls: what a function is known to do with data, and what a call of it comes to. -/
namespace Go.Vm

/-- function f, handed data, answers r; what was lent is then post; nothing else of what stood is changed -/
def uB (P : Program) (f : FuncId) : Prop := ∃ fn, P.funcs[f]? = some fn ∧ (fn.name == "runtime.NumGoroutine") = false ∧ fn.body.isNone = false
def am (P : Program) (f : FuncId) (ds post : List A) (r : A) : Prop := uB P f ∧
  ∀ (w : World) (imm S : Set) (vs : List Value), ae w imm none ds vs S → Set.dis S imm → (∀ b, imm b → b < w.heap.size) → (∀ b, S b → b < w.heap.size) →
    Calls P f vs.toArray w fun
      | .returned v, w' => ∃ imm' T1 T2, Set.le imm imm' ∧ ae w' imm' none post vs T1 ∧ CR w' imm' none r v T2 ∧ Set.dis T1 T2 ∧ Set.dis T1 imm' ∧ Set.dis T2 imm' ∧
          (∀ b, T1 b ∨ T2 b → b < w'.heap.size ∧ (S b ∨ w.heap.size ≤ b)) ∧ (∀ b, imm' b → b < w'.heap.size ∧ (imm b ∨ S b ∨ w.heap.size ≤ b)) ∧
          (∀ b, b < w.heap.size → ¬ S b → w'.heap[b]? = w.heap[b]?) ∧ w.heap.size ≤ w'.heap.size ∧ w'.os = w.os ∧ w'.output = w.output ∧ w'.tape = w.tape ∧ aJ w w'
      | .panicked _, _ => False
      | .outgrown, _ => False

theorem Calls.mono' {P : Program} {f : FuncId} {args : Array Value} {w : World} {R R' : Ending → World → Prop} (h : Calls P f args w R) (hr : ∀ e w', R e w' → R' e w') : Calls P f args w R' := fun cs => by
  obtain ⟨e, w', fr, h1, h2⟩ := h cs
  exact ⟨e, w', fr, hr _ _ h1, h2⟩

section
variable {P : Program} {E : TE} {Fn : FuncId → List A → List A → A → Prop} {LW : Code → (Ex → St → Prop) → St → Prop} {IN : InT} {w : World} {σ σ1 : St} {Λ : Lam} {Pool imm imm1 : Set} {F1 F : Key → Set}

theorem ae.single {x : Option Lam} {cs : List A} {v : Value} {S : Set} (h : ae w imm x cs [v] S) : ∃ c, cs = [c] ∧ CR w imm x c v S := by
  match cs with
  | [] => simp only [ae] at h
  | [c] => simp only [ae] at h; obtain ⟨S1, S2, h1, _, h3, _⟩ := h; exact ⟨c, rfl, h1.mono h3⟩
  | _ :: _ :: _ => simp only [ae] at h; obtain ⟨_, _, _, h, _⟩ := h; exact h.elim
theorem ae.of_one {x : Option Lam} {c : A} {v : Value} {S : Set} (h : CR w imm x c v S) : ae w imm x [c] [v] S := by
  simp only [ae]; exact ⟨S, Set.no, h, trivial, Set.le_refl _, Set.no_le _, fun _ _ z => z⟩

theorem bM.cons {x : A} {c : A} {xs ds : List A} (h : bM w Λ [x] [c]) (h' : bM w Λ xs ds) : bM w Λ (x :: xs) (c :: ds) := by
  cases x <;> cases c <;> simp only [bM] at h ⊢ <;> first | exact h' | exact ⟨h.1, h'⟩

theorem fR {n : Nat} : ∀ (xs : List A) (ms : List Mode) (us : List Value) (f : List A → Pg) (σ1 : St) (imm1 : Set) (F1 : Key → Set) (K : List W → Prop), c7 σ Λ Pool σ1 w imm1 F1 → ae w imm1 (some Λ) xs us Set.no →
      (gz (aq Fn LW IN) n ms xs f).holds σ1 K → ∃ ws ds imm2 F2 S, (f ds).holds (σ1.upd ws) (fun ws2 => K (ws ++ ws2)) ∧ c7 σ Λ Pool (σ1.upd ws) w imm2 F2 ∧ Set.le imm1 imm2 ∧ ae w imm2 none ds us S ∧ cg F2 imm2 Pool S ∧
    (∀ b, imm2 b → imm1 b ∨ ∃ κ, F1 κ b) ∧ (∀ κ b, F2 κ b → F1 κ b) ∧ (∀ b, S b → ∃ κ, F1 κ b) ∧ bM w Λ xs ds
  | [], ms, us, f, σ1, imm1, F1, K, hP, hv, hh => by
    cases us with
    | nil => exact ⟨[], [], imm1, F1, Set.no, hh, hP, Set.le_refl _, by simp only [ae], cg.no, fun b hb => .inl hb, fun _ _ h => h, fun _ z => z.elim, by simp only [bM]⟩
    | cons => simp only [ae] at hv
  | x :: xs, ms, [], f, σ1, imm1, F1, K, hP, hv, hh => by simp only [ae] at hv
  | x :: xs, ms, u :: us, f, σ1, imm1, F1, K, hP, hv, hh => by
    simp only [ae] at hv
    obtain ⟨S1, S2, hx, hv, h1, h2, _⟩ := hv
    replace hx := hx.mono h1
    replace hv := hv.mono h2
    obtain ⟨ws, ds, imm2, F2, S, r1, r2, r3, r4, r5, r6, r7, r8, r9, r10⟩ := pp n _ [x] [u] _ σ1 imm1 F1 Set.no K hP (ae.of_one hx) cg.no hh
    obtain ⟨c, rfl, hc⟩ := ae.single r4
    obtain ⟨ws', ds', imm3, F3, S', q1, q2, q3, q4, q5, q6, q7, q8, q9⟩ := fR xs ms.tail us _ (σ1.upd ws) imm2 F2 _ r2 (ae.stable r3 (fun _ _ => rfl) _ _ _ _ _ _ (bi?.refl _) (Set.le_refl _) (fun _ _ => rfl) hv) r1
    have r6' : ∀ b, imm2 b → imm1 b ∨ ∃ κ, F1 κ b := fun b hb => (r6 b hb).imp id (fun z => z.elim (fun y => y.elim) id)
    have r8' : ∀ b, S b → ∃ κ, F1 κ b := fun b hb => (r8 b hb).elim (fun y => y.elim) id
    have hSS : Set.dis S S' := fun b hb hb2 => by obtain ⟨κ, h⟩ := q8 b hb2; exact r5.dis κ b hb h
    refine ⟨ws ++ ws', c :: ds', imm3, F3, fun b => S b ∨ S' b, by rw [ba]; simp only [List.append_assoc]; exact q1, by rw [ba]; exact q2, Set.le_trans r3 q3, ?_, ⟨fun κ b hb hb2 => ?_, fun b hb hb2 => ?_, fun b hb => hb.elim (r5.pool b) (q5.pool b)⟩, fun b hb => ?_, fun κ b hb => r7 κ b (q7 κ b hb), fun b hb => ?_, bM.cons r10 q9⟩
    · simp only [ae]
      exact ⟨S, S', CR.stable q3 (fun _ _ => rfl) none none _ _ _ _ trivial (Set.le_refl _) (fun _ _ => rfl) hc, q4, fun b hb => .inl hb, fun b hb => .inr hb, hSS⟩
    · rcases hb with hb | hb
      · exact r5.dis κ b hb (q7 κ b hb2)
      · exact q5.dis κ b hb hb2
    · rcases hb with hb | hb
      · rcases q6 b hb2 with h | ⟨κ, h⟩
        · exact r5.imm b hb h
        · exact r5.dis κ b hb h
      · exact q5.imm b hb hb2
    · rcases q6 b hb with h | ⟨κ, h⟩
      · exact r6' b h
      · exact .inr ⟨κ, r7 κ b h⟩
    · rcases hb with hb | hb
      · exact r8' b hb
      · obtain ⟨κ, h⟩ := q8 b hb; exact ⟨κ, r7 κ b h⟩

theorem Own.size_same {w' : World} {b s s' : Nat} (h : Own w b s) (hk : aJ w w') (h' : Own w' b s') : s' = s := by
  obtain ⟨c, e, lo, hi, h1, h2, _⟩ := h
  obtain ⟨c', e', lo', hi', h3, h4, _⟩ := h'
  obtain ⟨c2, e2, fr2, h5, h6⟩ := hk b c e _ h1
  rw [h3] at h5
  cases h5
  omega

theorem cg.upno {κ : Key} {S : Set} (h : cg F1 imm Pool S) : cg (up F1 κ Set.no) imm Pool S :=
  ⟨fun x b hb hx => by
      by_cases ex : x = κ
      · subst ex; rw [ax] at hx; exact hx.elim
      · rw [aO _ _ ex] at hx; exact h.dis x b hb hx, h.imm, h.pool⟩
theorem cg.up {κ : Key} {S T : Set} (h : cg F1 imm Pool S) (hd : Set.dis S T) : cg (Vm.up F1 κ T) imm Pool S :=
  ⟨fun x b hb hx => by
      by_cases ex : x = κ
      · subst ex; rw [ax] at hx; exact hd b hb hx
      · rw [aO _ _ ex] at hx; exact h.dis x b hb hx, h.imm, h.pool⟩

theorem fb {w' : World} (hk : aJ w w') : ∀ (as ds ps : List A) (us : List Value) (σ1 : St) (F1 : Key → Set) (T : Set) (p : Pg) (K : List W → Prop), c7 σ Λ Pool σ1 w' imm F1 → bM w Λ as ds → ae w imm1 (some Λ) as us Set.no → ae w' imm none ps us T → cg F1 imm Pool T →
      (ip (aq Fn LW IN) as ds ps p).holds σ1 K → ∃ ws F2, p.holds (σ1.upd ws) (fun ws2 => K (ws ++ ws2)) ∧ c7 σ Λ Pool (σ1.upd ws) w' imm F2 ∧ ∀ κ b, F2 κ b → F1 κ b ∨ T b
  | as, ds, ps, us, σ1, F1, T, p, K, hP, hL, hA, hV, hH, hh => by
    unfold ip at hh
    split at hh
    · rename_i κ g i n as k rows0 ds k' rows ps
      split at hh
      · rename_i hkk
        subst hkk
        cases us with
        | nil => simp only [ae] at hA
        | cons u us =>
          simp only [ae] at hA hV
          simp only [bM] at hL
          obtain ⟨⟨l1, l2, l3, rfl, l5, l6⟩, hL⟩ := hL
          obtain ⟨A1, A2, hA, hAs, a1, a2, _⟩ := hA
          obtain ⟨V1, V2, hV, hVs, v1, v2, v3⟩ := hV
          simp only [CR] at hA hV
          have hr := hA.2.1 l1.symm
          have hH1 := hH.le v1
          have hN : NR w' imm Λ (Λ κ) (.arr g k rows) V1 := by
            obtain ⟨ad, cap, e, hV⟩ := hV
            cases hloc : (Λ κ).loc with
            | gone => exact absurd hloc l5
            | nil =>
              rw [hloc] at hr
              obtain ⟨_, rfl, e2⟩ := hr
              rw [e2] at e
              simp only [Value.slice.injEq] at e
              obtain ⟨rfl, e3, rfl⟩ := e
              have : rows = [] := List.eq_nil_of_length_eq_zero e3.symm
              subst this
              exact ⟨l1, l2, by rw [l3]; rfl, .inl ⟨hloc, rfl⟩⟩
            | at_ b base size =>
              rw [hloc] at hr
              obtain ⟨o, cap', e2, h1, h2, h3, h4⟩ := hr
              rw [e2] at e
              simp only [Value.slice.injEq] at e
              obtain ⟨e4, rfl, rfl⟩ := e
              rcases hV with ⟨e5, _⟩ | ⟨b', o', size', S', e5, q1, q2, q3, q4, q5, q6, q7, q8⟩
              · rw [← e4] at e5; cases e5
              · rw [← e4] at e5
                cases e5
                obtain ⟨l6, l7⟩ := l6 b base size hloc
                have hs := Own.size_same l6 hk q4
                subst hs
                refine ⟨l1, l2, l3, .inr ⟨b, base, _, S', hloc, q1, q2, q3, q4, by rw [← l3, ← l2]; exact l7, ?_⟩⟩
                rcases h4 with h4 | ⟨h4, h5⟩
                · have hl0 : rows.length = 0 := by omega
                  rw [List.eq_nil_of_length_eq_zero hl0]
                  simp only [ap]
                · have : o = base := by rw [h4]; simp
                  rw [← this]; exact q8
          have hP2 := hP.set κ (n := .arr g k rows) (S := V1) hH1.upno hN
          obtain ⟨ws, F2, r1, r2, r3⟩ := fb hk as ds ps us _ (up F1 κ V1) V2 p _ hP2 hL (hAs.mono a2) hVs ((hH.le v2).up (fun b h1 h2 => v3 b h2 h1)) hh
          refine ⟨.n κ (.arr g k rows) :: ws, F2, r1, r2, fun x b hb => ?_⟩
          rcases r3 x b hb with h | h
          · by_cases ex : x = κ
            · subst ex; rw [ax] at h; exact .inr (v1 b h)
            · rw [aO _ _ ex] at h; exact .inl h
          · exact .inr (v2 b h)
      · exact hh.elim
    · rename_i κ g i off as k rows0 j ds k' rows j' ps
      split at hh
      · rename_i hkk
        subst hkk
        obtain ⟨⟨hlen, hjj⟩, hh⟩ := hh
        replace hlen : rows.length = rows0.length := hlen
        subst hjj
        cases us with
        | nil => simp only [ae] at hA
        | cons u us =>
          simp only [ae] at hA hV
          simp only [bM] at hL
          obtain ⟨⟨l1, l2, l3, rfl, rfl, l5, l6⟩, hL⟩ := hL
          obtain ⟨A1, A2, hA, hAs, a1, a2, _⟩ := hA
          obtain ⟨V1, V2, hV, hVs, v1, v2, v3⟩ := hV
          simp only [CR] at hA hV
          have hH1 := hH.le v1
          have hN : NR w' imm Λ (Λ κ) (.arr g k rows) V1 := by
            obtain ⟨b', o', size', S', e5, q1, q2, q3, q4, q5, q6⟩ := hV
            obtain ⟨b, base, size, hloc, e⟩ := c8.at hA l1 l5
            rw [e] at e5
            simp only [Value.pointer.injEq, Option.some.injEq, Addr.mk.injEq, and_true] at e5
            obtain ⟨rfl, e6⟩ := e5
            have e7 : o' = base := by rw [l2] at e6; omega
            subst e7
            obtain ⟨l6, l7⟩ := l6 b o' size hloc
            have hs := Own.size_same l6 hk q4
            subst hs
            exact ⟨l1, l2, by rw [l3, hlen], .inr ⟨b, o', _, S', hloc, q1, q2, q3, q4, q5, q6⟩⟩
          have hP2 := hP.set κ (n := .arr g k rows) (S := V1) hH1.upno hN
          obtain ⟨ws, F2, r1, r2, r3⟩ := fb hk as ds ps us _ (up F1 κ V1) V2 p _ hP2 hL (hAs.mono a2) hVs ((hH.le v2).up (fun b h1 h2 => v3 b h2 h1)) hh
          refine ⟨.n κ (.arr g k rows) :: ws, F2, r1, r2, fun x b hb => ?_⟩
          rcases r3 x b hb with h | h
          · by_cases ex : x = κ
            · subst ex; rw [ax] at h; exact .inr (v1 b h)
            · rw [aO _ _ ex] at h; exact .inl h
          · exact .inr (v2 b h)
      · exact hh.elim
    · rename_i κ g i off as cells ds cells' ps
      split at hh
      · rename_i hkk
        cases us with
        | nil => simp only [ae] at hA
        | cons u us =>
          simp only [ae] at hA hV
          simp only [bM] at hL
          obtain ⟨⟨l1, l2, l3, rfl, rfl, l5, l6⟩, hL⟩ := hL
          obtain ⟨A1, A2, hA, hAs, a1, a2, _⟩ := hA
          obtain ⟨V1, V2, hV, hVs, v1, v2, v3⟩ := hV
          simp only [CR] at hA hV
          have hH1 := hH.le v1
          have hN : NR w' imm Λ (Λ κ) (.box g cells') V1 := by
            obtain ⟨b', o', size', S', e5, q1, q2, q3, q4, q5, q6⟩ := hV
            obtain ⟨b, base, size, hloc, e⟩ := c8.at hA l1 l5
            rw [e] at e5
            simp only [Value.pointer.injEq, Option.some.injEq, Addr.mk.injEq, and_true] at e5
            obtain ⟨rfl, rfl⟩ := e5
            obtain ⟨l6, l7⟩ := l6 b base size hloc
            have hs := Own.size_same l6 hk q4
            subst hs
            refine ⟨l1, by rw [l2, hkk], l3, b, base, _, S', hloc, q1, q2, q3, q4, ?_, ?_⟩
            · simpa using q5
            · exact ag.any _ _ _ _ _ _ _ (by simpa using q6)
          have hP2 := hP.set κ (n := .box g cells') (S := V1) hH1.upno hN
          obtain ⟨ws, F2, r1, r2, r3⟩ := fb hk as ds ps us _ (up F1 κ V1) V2 p _ hP2 hL (hAs.mono a2) hVs ((hH.le v2).up (fun b h1 h2 => v3 b h2 h1)) hh
          refine ⟨.n κ (.box g cells') :: ws, F2, r1, r2, fun x b hb => ?_⟩
          rcases r3 x b hb with h | h
          · by_cases ex : x = κ
            · subst ex; rw [ax] at h; exact .inr (v1 b h)
            · rw [aO _ _ ex] at h; exact .inl h
          · exact .inr (v2 b h)
      · exact hh.elim
    · rename_i cs as es ds fs ps
      cases us with
      | nil => simp only [ae] at hA
      | cons u us =>
        simp only [ae] at hA hV
        simp only [bM] at hL
        obtain ⟨A1, A2, hA, hAs, a1, a2, _⟩ := hA
        obtain ⟨V1, V2, hV, hVs, v1, v2, v3⟩ := hV
        simp only [CR] at hA hV
        obtain ⟨vs, rfl, hA⟩ := hA
        obtain ⟨vs', e, hV⟩ := hV
        simp only [Value.agg.injEq] at e
        have e' : vs = vs' := by simpa using congrArg Array.toList e
        subst e'
        obtain ⟨ws, F2, r1, r2, r3⟩ := fb hk cs es fs vs _ F1 V1 _ _ hP hL.1 (hA.mono a1) hV (hH.le v1) hh
        obtain ⟨ws', F3, q1, q2, q3⟩ := fb hk as ds ps us _ F2 V2 p _ r2 hL.2 (hAs.mono a2) hVs ⟨fun κ b hb hb2 => (r3 κ b hb2).elim (hH.dis κ b (v2 b hb)) (fun z => v3 b z hb), fun b hb => hH.imm b (v2 b hb), fun b hb => hH.pool b (v2 b hb)⟩ r1
        refine ⟨ws ++ ws', F3, by rw [ba]; simp only [List.append_assoc]; exact q1, by rw [ba]; exact q2, fun x b hb => ?_⟩
        rcases q3 x b hb with h | h
        · exact (r3 x b h).imp id (v1 b)
        · exact .inr (v2 b h)
    · rename_i x as c ds q ps _ _ _ _
      cases us with
      | nil => simp only [ae] at hA
      | cons u us =>
        simp only [ae] at hA hV
        obtain ⟨A1, A2, hA, hAs, a1, a2, _⟩ := hA
        obtain ⟨V1, V2, hV, hVs, v1, v2, v3⟩ := hV
        have hL' : bM w Λ as ds := by
          cases x <;> cases c <;> simp only [bM] at hL <;> first | exact hL | exact hL.2
        obtain ⟨ws, F2, r1, r2, r3⟩ := fb hk as ds ps us _ F1 V2 p _ hP hL' (hAs.mono a2) hVs (hH.le v2) hh
        exact ⟨ws, F2, r1, r2, fun x b hb => (r3 x b hb).imp id (v2 b)⟩
    · exact ⟨[], F1, hh, hP, fun _ _ h => .inl h⟩
  termination_by as => SizeOf.sizeOf as

variable {ρ : Env} {K : List W → Prop} {o : Oper} {a : Act} {Q : Exit → Act → World → Prop}

def pD (ρ : Env) (w : World) : Set := fun b => b < w.heap.size ∧ (ρ.own0 b ∨ ρ.w0.heap.size ≤ b)

/-- a node made of what is in no node's hand -/
theorem aB.gain (h : aB ρ σ a w imm Λ F) {κ : Key} {n : HN} {i : KI} {T : Set} (hg : i.gen = (lkN σ.heap κ.1 κ.2).gen + 1) (hT : cg F imm (pD ρ w) T) (hN : NR w imm (up Λ κ i) i n T) :
    aB ρ (σ.upd1 (.n κ n)) a w imm (up Λ κ i) (up F κ T) ∧ bi Λ (up Λ κ i) := by
  have hle : bi Λ (up Λ κ i) := by
    intro x
    by_cases ex : x = κ
    · subst ex; rw [ax]; have := lh h x; exact ⟨by omega, fun e => by omega⟩
    · rw [aO _ _ ex]; exact ⟨Nat.le_refl _, fun _ => .inr rfl⟩
  refine ⟨{ h with slots := fun t => CR.stable (Set.le_refl _) (fun _ _ => rfl) (some Λ) (some _) _ _ _ _ hle (Set.le_refl _) (fun _ z => z.elim) (h.slots t), nodes := fun x => ?_, dis := fun x y hxy => ?_, fimm := fun x => ?_, flt := fun x b hb => ?_ }, hle⟩
  · show NR _ _ _ _ (lkN ((κ, n) :: σ.heap) x.1 x.2) _
    rw [aZ]
    by_cases ex : x = κ
    · subst ex; rw [if_pos rfl, ax, ax]; exact hN
    · rw [if_neg ex, aO _ _ ex, aO _ _ ex]; exact (h.nodes x).le hle
  · by_cases ex : x = κ
    · subst ex; rw [ax, aO _ _ (fun z => hxy z.symm)]; exact hT.dis y
    · rw [aO _ _ ex]
      by_cases ey : y = κ
      · subst ey; rw [ax]; exact fun b h1 h2 => hT.dis x b h2 h1
      · rw [aO _ _ ey]; exact h.dis x y hxy
  · by_cases ex : x = κ
    · subst ex; rw [ax]; exact hT.imm
    · rw [aO _ _ ex]; exact h.fimm x
  · by_cases ex : x = κ
    · subst ex; rw [ax] at hb; exact hT.pool b hb
    · rw [aO _ _ ex] at hb; exact h.flt x b hb

def In (ρ : Env) (a : Act) (w : World) (imm : Set) (σ : St) (Λ : Lam) (F : Key → Set) (T : Set) (us : List Value) (f : List A → Pg) (K : List W → Prop) : Prop :=
  ∃ ws as Λ' F', (f as).holds (σ.upd ws) (fun ws2 => K (ws ++ ws2)) ∧ aB ρ (σ.upd ws) a w imm Λ' F' ∧ bi Λ Λ' ∧ ae w imm (some Λ') as us Set.no ∧ (∀ κ b, F' κ b → F κ b ∨ T b)

theorem bi.trans {Λ Λ' Λ2 : Lam} (h : bi Λ Λ') (h' : bi Λ' Λ2) : bi Λ Λ2 := fun κ => by
  refine ⟨Nat.le_trans (h κ).1 (h' κ).1, fun e => ?_⟩
  have h1 := (h κ).1
  have h2 := (h' κ).1
  rcases (h' κ).2 (by omega) with h3 | h3
  · exact .inl h3
  · rw [h3]
    exact (h κ).2 (by omega)

theorem iP (d : Nat) : ∀ (n j : Nat) (xs : List A) (us : List Value) (f : List A → Pg) (σ : St) (Λ : Lam) (F : Key → Set) (T : Set) (K : List W → Prop), aB ρ σ a w imm Λ F → ae w imm none xs us T → cg F imm (pD ρ w) T →
      (imp (aq Fn LW IN) d n j xs f).holds σ K → In ρ a w imm σ Λ F T us f K
  | 0, j, xs, us, f, σ, Λ, F, T, K, h, hv, hH, hh => by cases xs <;> exact hh.elim
  | n + 1, j, [], us, f, σ, Λ, F, T, K, h, hv, hH, hh => by
    cases us with
    | nil => exact ⟨[], [], Λ, F, hh, h, bi.refl Λ, by simp only [ae], fun _ _ z => .inl z⟩
    | cons => simp only [ae] at hv
  | n + 1, j, x :: xs, [], f, σ, Λ, F, T, K, h, hv, hH, hh => by simp only [ae] at hv
  | n + 1, j, x :: xs, u :: us, f, σ, Λ, F, T, K, h, hv, hH, hh => by
    simp only [ae] at hv
    obtain ⟨T1, T2, hx, hv, h1, h2, h12⟩ := hv
    have go : ∀ (c : A) (ws0 : List W) (j' : Nat) (Λ' : Lam) (F' : Key → Set), aB ρ (σ.upd ws0) a w imm Λ' F' → bi Λ Λ' → CR w imm (some Λ') c u Set.no → (∀ κ b, F' κ b → F κ b ∨ T1 b) →
        (imp (aq Fn LW IN) d n j' xs fun as => f (c :: as)).holds (σ.upd ws0) (fun ws2 => K (ws0 ++ ws2)) → In ρ a w imm σ Λ F T (u :: us) f K := by
      intro c ws0 j' Λ' F' hr hl hc hF hh
      have hH2 : cg F' imm (pD ρ w) T2 := ⟨fun κ b hb hb2 => by
          rcases hF κ b hb2 with h' | h'
          · exact hH.dis κ b (h2 b hb) h'
          · exact h12 b h' hb, (hH.le h2).imm, (hH.le h2).pool⟩
      obtain ⟨ws, as, Λ2, F2, r1, r2, r3, r4, r5⟩ := iP d n j' xs us _ (σ.upd ws0) Λ' F' T2 _ hr hv hH2 hh
      refine ⟨ws0 ++ ws, c :: as, Λ2, F2, by rw [ba]; simp only [List.append_assoc]; exact r1, by rw [ba]; exact r2, hl.trans r3, ?_, fun κ b hb => ?_⟩
      · simp only [ae]
        exact ⟨Set.no, Set.no, CR.stable (Set.le_refl _) (fun _ _ => rfl) (some Λ') (some Λ2) _ _ _ _ r3 (Set.le_refl _) (fun _ _ => rfl) hc, r4, Set.le_refl _, Set.le_refl _, Set.no_dis _⟩
      · rcases r5 κ b hb with h' | h'
        · exact (hF κ b h').imp id (h1 b)
        · exact .inr (h2 b h')
    have keep : CR w imm (some Λ) x u Set.no → (imp (aq Fn LW IN) d n j xs fun as => f (x :: as)).holds σ K → In ρ a w imm σ Λ F T (u :: us) f K :=
      fun hc hh => go x [] j Λ F h (bi.refl Λ) hc (fun _ _ z => .inl z) hh
    cases x with
    | lit v => exact keep (by simp only [CR] at hx ⊢; exact hx) hh
    | emp => exact keep (by simp only [CR] at hx ⊢; exact hx) hh
    | tree rows => exact keep (by simp only [CR] at hx ⊢; exact hx) hh
    | iptr r off => exact keep (by simp only [CR] at hx ⊢; exact hx) hh
    | hole => exact keep (by simp only [CR]) hh
    | clo g cs => exact keep ((CR.any w imm (some Λ) _ _ _ (show CR w imm none (.clo g cs) u Set.no by simp only [CR] at hx ⊢; exact hx))) hh
    | ref => exact hh.elim
    | mptr => exact hh.elim
    | optr k rows i =>
      simp only [CR] at hx
      obtain ⟨b', o', size, S', e, g1, g2, g3, g4, g5, g6⟩ := hx
      let g := (lkN σ.heap (d, j).1 (d, j).2).gen + 1
      obtain ⟨hr, hl⟩ := h.gain (κ := (d, j)) (n := .arr g k rows) (i := ⟨g, .at_ b' o' size, k, rows.length⟩) rfl (hH.le h1) (by
        exact ⟨rfl, rfl, rfl, .inr ⟨b', o', size, S', rfl, g1, g2, g3, g4, g5, g6⟩⟩)
      refine go (.mptr (d, j) g i 0) [.n (d, j) (.arr g k rows)] (j + 1) _ _ hr hl ?_ (fun κ b hb => ?_) hh
      · simp only [CR, ax, c8]
        exact ⟨Nat.le_refl _, fun _ => by rw [e]; simp, _, e⟩
      · by_cases ex : κ = (d, j)
        · subst ex; rw [ax] at hb; exact .inr hb
        · rw [aO _ _ ex] at hb; exact .inl hb
    | inl k rows =>
      simp only [CR] at hx
      obtain ⟨ad, cap, e, hx⟩ := hx
      let g := (lkN σ.heap (d, j).1 (d, j).2).gen + 1
      have hex : ∃ loc : Loc, loc ≠ .gone ∧ (∀ Λ', NR w imm Λ' ⟨g, loc, k, rows.length⟩ (.arr g k rows) T1) ∧ da ⟨g, loc, k, rows.length⟩ g 0 rows.length u := by
        rcases hx with ⟨rfl, rfl, rfl⟩ | ⟨b', o', size, S', rfl, g1, g2, g3, g4, g5, g6, g7, g8⟩
        · exact ⟨.nil, by simp, fun _ => ⟨rfl, rfl, rfl, .inl ⟨rfl, rfl⟩⟩, Nat.le_refl _, fun _ => ⟨rfl, rfl, e⟩, _, _, _, e⟩
        · refine ⟨.at_ b' o' size, by simp, fun _ => ?_, Nat.le_refl _, fun _ => ⟨o', cap, e, g7, by simp, g6, .inr ⟨by simp, by simpa using g5⟩⟩, _, _, _, e⟩
          refine ⟨rfl, rfl, rfl, .inr ⟨b', o', size, S', rfl, g1, g2, g3, g4, ?_, g8⟩⟩
          have := Nat.mul_le_mul_right k g7
          omega
      obtain ⟨loc, _, hN, hR⟩ := hex
      obtain ⟨hr, hl⟩ := h.gain (κ := (d, j)) (n := .arr g k rows) (i := ⟨g, loc, k, rows.length⟩) rfl (hH.le h1) (hN _)
      refine go (.ref (d, j) g 0 rows.length) [.n (d, j) (.arr g k rows)] (j + 1) _ _ hr hl ?_ (fun κ b hb => ?_) hh
      · simp only [CR, ax]; exact hR
      · by_cases ex : κ = (d, j)
        · subst ex; rw [ax] at hb; exact .inr hb
        · rw [aO _ _ ex] at hb; exact .inl hb
    | obox cells =>
      simp only [CR] at hx
      obtain ⟨b', o', size, S', e, g1, g2, g3, g4, g5, g6⟩ := hx
      let g := (lkN σ.heap (d, j).1 (d, j).2).gen + 1
      obtain ⟨hr, hl⟩ := h.gain (κ := (d, j)) (n := .box g cells) (i := ⟨g, .at_ b' o' size, cells.length, 1⟩) rfl (hH.le h1) (by
        exact ⟨rfl, rfl, rfl, b', o', size, S', rfl, g1, g2, g3, g4, g5, ag.any _ _ _ _ _ _ _ g6⟩)
      refine go (.mptr (d, j) g 0 0) [.n (d, j) (.box g cells)] (j + 1) _ _ hr hl ?_ (fun κ b hb => ?_) hh
      · simp only [CR, ax, c8]
        exact ⟨Nat.le_refl _, fun _ => by rw [e]; simp, _, e⟩
      · by_cases ex : κ = (d, j)
        · subst ex; rw [ax] at hb; exact .inr hb
        · rw [aO _ _ ex] at hb; exact .inl hb
    | agg cs =>
      simp only [CR] at hx
      obtain ⟨vs, rfl, hx⟩ := hx
      obtain ⟨ws, as, Λ2, F2, r1, r2, r3, r4, r5⟩ := iP d n j cs vs _ σ Λ F T1 _ h hx (hH.le h1) hh
      exact go (.agg as) ws _ Λ2 F2 r2 r3 (by simp only [CR]; exact ⟨vs, rfl, r4⟩) r5 r1
    | tup cs =>
      simp only [CR] at hx
      obtain ⟨vs, rfl, hx⟩ := hx
      obtain ⟨ws, as, Λ2, F2, r1, r2, r3, r4, r5⟩ := iP d n j cs vs _ σ Λ F T1 _ h hx (hH.le h1) hh
      exact go (.tup as) ws _ Λ2 F2 r2 r3 (by simp only [CR]; exact ⟨vs, rfl, r4⟩) r5 r1

/-- a call that is followed into its code -/
def INg (P : Program) : Option Nat → FuncId → List A → St → (List W → Prop) → Prop := fun d f as σ K => ∀ (ρ : Env) (o : Oper) (a : Act) (w : World) (imm : Set) (Λ : Lam) (F : Key → Set) (us : List Value) (Q : Exit → Act → World → Prop), aB ρ σ a w imm Λ F → o.dst = d → (∀ t, o.dst = some t → t < ρ.n) → ae w imm (some Λ) as us Set.no →
  (uB P f → (execOp a.eval o).run P w = .ok (.enter f us.toArray) w) → bc P ρ σ K o a w Q
def INr (P : Program) (f : FuncId) (as : List A) (H : List (Key × HN)) (r : A) : Prop := ∀ (σ : St) (d : Option Nat) (K : List W → Prop), (∀ x ∈ H, lkN σ.heap x.1.1 x.1.2 = x.2) → K (Vm.put d r) → INg P d f as σ K
def INc (P : Program) : InT := ⟨INg P, INr P⟩
theorem nq {σ : St} {K : List W → Prop} {k : List (Key × HN) → Pg} : ∀ (ks : List Key) (acc : List (Key × HN)), (∀ x ∈ acc, lkN σ.heap x.1.1 x.1.2 = x.2) → (oV ks acc k).holds σ K → ∃ H, (∀ x ∈ H, lkN σ.heap x.1.1 x.1.2 = x.2) ∧ (k H).holds σ K
  | [], acc, h, hh => ⟨acc, h, hh⟩
  | κ :: ks, acc, h, hh => nq ks _ (fun x hx => by
      rcases List.mem_cons.1 hx with rfl | hx
      · rfl
      · exact h x hx) hh
/-- the nodes as they are known when the call is over -/
def seen (Λ : Lam) (σ : St) : Lam := fun κ => match lkN σ.heap κ.1 κ.2 with
  | .dead _ => { Λ κ with loc := .gone }
  | _ => Λ κ
theorem tG (Λ : Lam) (σ : St) : bi Λ (seen Λ σ) := fun κ => by
  unfold seen
  split
  · exact ⟨Nat.le_refl _, fun _ => .inl rfl⟩
  · exact ⟨Nat.le_refl _, fun _ => .inr rfl⟩
theorem c7.seen {w' : World} (h : c7 σ Λ Pool σ1 w' imm F) (κ : Key) : NR w' imm (seen Λ σ1) (seen Λ σ1 κ) (lkN σ1.heap κ.1 κ.2) (F κ) := by
  have hn := h.nodes κ
  have hl := tG Λ σ1
  unfold Vm.seen at hl ⊢
  generalize hnd : lkN σ1.heap κ.1 κ.2 = nd at hn ⊢
  rcases hn with rfl | hn
  · exact ⟨rfl, rfl⟩
  · cases nd with
    | dead g => exact ⟨hn.1, rfl⟩
    | _ => exact hn.le hl

theorem uw (h : aB ρ σ a w imm Λ F) (hd : ∀ t, o.dst = some t → t < ρ.n) {f : FuncId} {as : List A} {us : List Value} (hv : ae w imm (some Λ) as us Set.no)
    (hex : uB P f → (execOp a.eval o).run P w = .ok (.enter f us.toArray) w) (hh : (rH E (aq (am P) LW (INc P)) o.dst f as).holds σ K) : bc P ρ σ K o a w Q := by
  unfold rH at hh
  cases hI : rY f E.inl with
  | true => rw [hI] at hh; exact hh ρ o a w imm Λ F us Q h rfl hd hv hex
  | false =>
  rw [hI] at hh
  simp only [cond] at hh
  cases hR : rY f E.ro with
  | true =>
    rw [hR] at hh
    obtain ⟨ks, hh⟩ := hh
    obtain ⟨H, hH, r, hr, hk⟩ := nq ks [] (fun x hx => by cases hx) hh
    exact hr σ o.dst K hH hk ρ o a w imm Λ F us Q h rfl hd hv hex
  | false =>
  rw [hR] at hh
  simp only at hh
  have hP0 : c7 σ Λ (fun b => ∃ κ, F κ b) σ w imm F := ⟨fun _ => rfl, fun κ => .inr (h.nodes κ), h.dis, h.fimm, fun κ b hb => ⟨κ, hb⟩⟩
  obtain ⟨ws, ds, imm1, F1, S, r1, r2, r3, r4, r5, r6, r7, r8, r9⟩ := fR _ _ us _ σ imm F _ hP0 hv hh
  obtain ⟨post, r, hF, hk⟩ := r1
  have him1 : ∀ b, imm1 b → b < w.heap.size := fun b hb => by
    rcases r6 b hb with h' | ⟨κ, h'⟩
    · exact (h.immlt b h').1
    · exact (h.flt κ b h').1
  have hS1 : ∀ b, S b → b < w.heap.size := fun b hb => by obtain ⟨κ, h'⟩ := r8 b hb; exact (h.flt κ b h').1
  refine .inl ?_
  simp only [Oper.wp, hex hF.1, Oper.upon]
  refine Calls.mono' (hF.2 w imm1 S us r4 r5.imm him1 hS1) ?_
  intro e w' hR
  cases e with
  | panicked ch => exact hR.elim
  | outgrown => exact hR.elim
  | returned v =>
    obtain ⟨imm2, T1, T2, i1, i2, i3, i4, i5, i6, i7, i8, i9, i10, i11, i12, i13, i14⟩ := hR
    have hFlt : ∀ κ b, F1 κ b → b < w.heap.size := fun κ b hb => (h.flt κ b (r7 κ b hb)).1
    have hFi : ∀ κ, Set.dis (F1 κ) imm2 := fun κ b hb hi => by
      rcases (i8 b hi).2 with h' | h' | h'
      · exact r2.fimm κ b hb h'
      · exact r5.dis κ b h' hb
      · have := hFlt κ b hb; omega
    have hP2 : c7 σ Λ (fun b => (∃ κ, F κ b) ∨ (w.heap.size ≤ b ∧ b < w'.heap.size)) (σ.upd ws) w' imm2 F1 :=
      ⟨r2.slots, fun κ => (r2.nodes κ).imp id (fun hN => NR.stable i1 (fun b hb => i9 b (him1 b hb) (fun hs => r5.imm b hs hb)) (fun b hb => i9 b (hFlt κ b hb) (fun hs => r5.dis κ b hs hb)) (bi.refl Λ) hN), r2.dis, hFi, fun κ b hb => .inl ⟨κ, r7 κ b hb⟩⟩
    have hH : ∀ T : Set, (∀ b, T b → b < w'.heap.size ∧ (S b ∨ w.heap.size ≤ b)) → Set.dis T imm2 → cg F1 imm2 (fun b => (∃ κ, F κ b) ∨ (w.heap.size ≤ b ∧ b < w'.heap.size)) T := fun T hT hTi =>
      ⟨fun κ b hb hb2 => by
        rcases (hT b hb).2 with h' | h'
        · exact r5.dis κ b h' hb2
        · have := hFlt κ b hb2; omega, hTi, fun b hb => by
        rcases hT b hb with ⟨h1, h' | h'⟩
        · exact .inl (r8 b h')
        · exact .inr ⟨h', h1⟩⟩
    have hT1 := hH T1 (fun b hb => i7 b (.inl hb)) i5
    have hT2 := hH T2 (fun b hb => i7 b (.inr hb)) i6
    obtain ⟨ws2, F2, q1, q2, q3⟩ := fb i14 as ds post us _ F1 T1 _ _ hP2 r9 hv i2 hT1 hk
    have hR2 : aB ρ ((σ.upd ws).upd ws2) a w' imm2 (seen Λ ((σ.upd ws).upd ws2)) F2 := by
      refine h.step q2.slots (Set.le_trans r3 i1) (fun b hb => i9 b (h.immlt b hb).1 (fun hs => r5.imm b hs (r3 b hb))) i10 (fun b hb hno => i9 b hb (fun hs => hno (r8 b hs))) (tG _ _) q2.seen q2.dis q2.fimm (fun κ b hb => q2.pool κ b hb) (fun b hb => ?_) ⟨i11, i12, i13, i14⟩
      obtain ⟨h1, h' | h' | h'⟩ := i8 b hb
      · exact (r6 b h').imp id .inl
      · exact .inr (.inl (r8 b h'))
      · exact .inr (.inr ⟨h', h1⟩)
    cases hod : o.dst with
    | none =>
      rw [hod] at q1
      exact ⟨_, q1, imm2, _, F2, by rw [List.append_nil, ba]; exact hR2⟩
    | some d =>
      rw [hod] at q1
      have hHm : cg F2 imm2 (pD ρ w') T2 := ⟨fun κ b hb hb2 => by
          rcases q3 κ b hb2 with h' | h'
          · exact hT2.dis κ b hb h'
          · exact i4 b h' hb, i6, fun b hb => by
          refine ⟨(i7 b (.inr hb)).1, ?_⟩
          rcases (i7 b (.inr hb)).2 with h' | h'
          · obtain ⟨κ, h'⟩ := r8 b h'; exact (h.flt κ b h').2
          · exact .inr (Nat.le_trans h.grow h')⟩
      obtain ⟨ws3, as3, Λ3, F3, p1, p2, p3, p4, p5⟩ := iP d 40 0 [r] [v] _ _ _ F2 T2 _ hR2 (ae.of_one i3) hHm q1
      obtain ⟨c, rfl, hc⟩ := ae.single p4
      refine ⟨_, p1, imm2, Λ3, F3, ?_⟩
      have := p2.put (d := some d) (fun t ht => by cases ht; exact hd d hod) hc
      simp only [ba] at this ⊢
      exact this
end
end Go.Vm
/- All operations. -/
namespace Go.Vm
section
variable {P : Program} {E : TE} {LW : Code → (Ex → St → Prop) → St → Prop} {w : World} {σ : St} {Λ : Lam} {imm : Set} {F : Key → Set} {ρ : Env} {K : List W → Prop} {o : Oper} {a : Act} {Q : Exit → Act → World → Prop}

theorem ae.append {x : Option Lam} : ∀ {cs ds : List A} {vs us : List Value}, ae w imm x cs vs Set.no → ae w imm x ds us Set.no → ae w imm x (cs ++ ds) (vs ++ us) Set.no :=
  fun h h' => ae.join h h' (Set.le_refl _) (Set.le_refl _) (Set.no_dis _)

theorem rW {f : FuncId} (h : uB P f) (args : Array Value) : (callFunc f args).run P w = .ok (.enter f args) w := by
  obtain ⟨fn, h1, h2, h3⟩ := h
  have h2' : ¬ fn.name = "runtime.NumGoroutine" := by simpa using h2
  have h3' : ¬ fn.body = none := by intro e; rw [e] at h3; simp at h3
  simp [callFunc, h1, h2', h3']

theorem rx (hE : EOk P E) (h : aB ρ σ a w imm Λ F) (hd : ∀ t, o.dst = some t → t < ρ.n) (hh : (ia E (aq (am P) LW (INc P)) o.dst o.op).holds σ K) : bc P ρ σ K o a w Q := by
  cases hop : o.op with
  | move x => rw [hop] at hh; exact o5 h hd (.inl hop) hh
  | assign x => rw [hop] at hh; exact o5 h hd (.inr hop) hh
  | pick c x y => rw [hop] at hh; exact uA h hd hop hh
  | alloc t => rw [hop] at hh; exact s7 hE h hd hop hh
  | box t x => rw [hop] at hh; exact sW hE h hd hop hh
  | build t ps => rw [hop] at hh; exact sP hE h hd hop hh
  | buildSlice t n ps => rw [hop] at hh; exact oz hE h hd hop hh
  | load t x => rw [hop] at hh; exact um hE h hd hop hh
  | store t x y => rw [hop] at hh; exact tf hE h hop hh
  | nilCheck x => rw [hop] at hh; exact pY h hd hop hh
  | binOp op t x y t' => rw [hop] at hh; exact vp hE h hd hop hh
  | unOp op t x => rw [hop] at hh; exact vP h hd hop hh
  | convert s t x => rw [hop] at hh; exact uF hE h hd hop hh
  | makeFunc f first cap =>
    rw [hop] at hh
    cases f with
    | func f => exact pL h hd hop hh
    | _ => exact hh.elim
  | makeSlice t l c => rw [hop] at hh; exact oJ hE h hd hop hh
  | slice t x l r m => rw [hop] at hh; exact sX hE h hd hop hh
  | fieldAddr s x f => rw [hop] at hh; exact tc hE h hd hop hh
  | indexAddr t x i => rw [hop] at hh; exact sY hE h hd hop hh
  | index t x i => rw [hop] at hh; exact se hE h hd hop hh
  | field s x f => rw [hop] at hh; exact rv hE h hd hop hh
  | extract x i => rw [hop] at hh; exact qR h hd hop hh
  | call c =>
    rw [hop] at hh
    simp only [ia] at hh
    split at hh
    · rename_i f hcal
      obtain ⟨f', hf, hh1⟩ := h.opd hh
      clear hh
      obtain ⟨ys, hys, hh2⟩ := h.opds hh1
      clear hh1
      split at hh2
      · rename_i g cs
        simp only [CR] at hf
        obtain ⟨vs, hfv, hcs⟩ := hf
        refine uw h hd (ae.append hys hcs) (fun hb => ?_) hh2
        simp only [execOp, hop, resolve, hcal, Sem.run_bind, Deferred.ofValue, hfv, Sem.run_pure, Result.andThen_ok, invoke, Array.empty_append]
        rw [show c.args.map a.eval ++ vs.toArray = (c.args.toList.map a.eval ++ vs).toArray from Array.ext' (by simp)]
        exact rW hb _
      · exact hh2.elim
    · rename_i hcal
      split at hh
      · rename_i x t hx ht; exact vo hE h hd hop hcal hx ht hh
      · exact hh.elim
    · rename_i hcal
      split at hh
      · rename_i x y t s hx ht
        split at hh
        · rename_i hs; exact rJ hE h hd hop hcal hx ht hs hh
        · exact hh.elim
      · exact hh.elim
    · rename_i hcal
      split at hh
      · rename_i x y hx; exact mC (mx := false) h hd hop hx hcal hh
      · exact hh.elim
    · rename_i hcal
      split at hh
      · rename_i x y hx; exact mC (mx := true) h hd hop hx hcal hh
      · exact hh.elim
    · exact hh.elim
  | _ => rw [hop] at hh; exact hh.elim
end
end Go.Vm
/- Regions. -/
namespace Go.Vm
section
variable {P : Program} {E : TE} {LW : Code → (Ex → St → Prop) → St → Prop} {w : World} {σ : St} {Λ : Lam} {imm : Set} {F : Key → Set} {ρ : Env} {o : Oper} {a : Act} {Q : Exit → Act → World → Prop}

theorem aB.slotv (h : aB ρ σ a w imm Λ F) {g : Nat} {b : Bool} (hlt : g < ρ.n) (hg : lkS σ.slots g = .lit (.bool b)) : a.tmps[g]? = some (.bool b) := by
  have := h.slots g
  have hn := h.nlt
  unfold Vm.slotv at this
  rw [if_pos (by omega)] at this
  rw [hg] at this
  have h2 := bo this
  rw [Array.getD_eq_getD_getElem?] at h2
  cases hq : a.tmps[g]? with
  | none => rw [hq] at h2; simp [undef] at h2
  | some v => rw [hq] at h2; simp at h2; rw [h2]
theorem Rel.same {σ' : St} (h : Rel ρ σ a w) (hs : ∀ t, lkS σ'.slots t = lkS σ.slots t) (hn : ∀ κ : Key, lkN σ'.heap κ.1 κ.2 = lkN σ.heap κ.1 κ.2) : Rel ρ σ' a w := by
  obtain ⟨imm, Λ, F, h⟩ := h
  exact ⟨imm, Λ, F, h.congr hs hn⟩
theorem Rel.unset (h : Rel ρ σ a w) {d : Option Nat} (hd : ∀ t, d = some t → t < ρ.n) : Rel ρ (σ.upd (put d unset)) (a.put d undef) w := by
  obtain ⟨imm, Λ, F, h⟩ := h
  exact ⟨imm, Λ, F, h.put hd (by simp only [CR]; rfl)⟩
theorem aB.slotu (h : aB ρ σ a w imm Λ F) {g : Nat} {u : Array Value} (hlt : g < ρ.n) (hg : lkS σ.slots g = .lit (.tuple u)) : a.tmps[g]? = some (.tuple u) := by
  have := h.slots g
  have hn := h.nlt
  unfold Vm.slotv at this
  rw [if_pos (by omega)] at this
  rw [hg] at this
  have h2 := bo this
  have hs := h.size
  rw [Array.getD_eq_getD_getElem?] at h2
  have hq : a.tmps[g]? = some a.tmps[g] := by simp [hs, hlt]
  rw [hq] at h2 ⊢
  simp at h2
  rw [h2]
theorem o3 {ops : Array Oper} {j g : Nat} {want : Bool} {u : Array Value} (hgd : o.guard = some (j, want)) (hj : (ops.toList[j]?).bind (·.dst) = some g) (hv : a.tmps[g]? = some (.tuple u)) : Region.wanted o (yielded ops a.tmps) = false := by
  have hy : yielded ops a.tmps j = none := by
    simp only [yielded]
    rw [← Array.getElem?_toList, hj]
    simp [hv]
  simp only [Region.wanted, hgd, hy]
  rfl
theorem nk {ops : Array Oper} {j g : Nat} {want b : Bool} (hgd : o.guard = some (j, want)) (hj : (ops.toList[j]?).bind (·.dst) = some g) (hv : a.tmps[g]? = some (.bool b)) : Region.wanted o (yielded ops a.tmps) = (b == want) := by
  have hy : yielded ops a.tmps j = some b := by
    simp only [yielded]
    rw [← Array.getElem?_toList, hj]
    simp [hv]
  simp only [Region.wanted, hgd, hy]
  cases b <;> cases want <;> rfl

theorem lk {ops : Array Oper} (hd : ∀ o ∈ ops.toList, ∀ t, o.dst = some t → t < ρ.n) {j g : Nat} (hj : (ops.toList[j]?).bind (·.dst) = some g) : g < ρ.n := by
  rw [Option.bind_eq_some_iff] at hj
  obtain ⟨o, h1, h2⟩ := hj
  exact hd o (List.mem_of_getElem? h1) g h2

theorem nv (hE : EOk P E) {ops : Array Oper} {K : St → Prop} (hK : ∀ a w σ, K σ → Rel ρ σ a w → Q .normal a w) : ∀ (l : List Oper) (σ : St) (a : Act) (w : World), (∀ o ∈ ops.toList, ∀ t, o.dst = some t → t < ρ.n) → (∀ o ∈ l, o ∈ ops.toList) →
    Vm.wpOps E (aq (am P) LW (INc P)) ops.toList K l σ → Rel ρ σ a w → wpList P ops Q l a w
  | [], σ, a, w, _, _, hh, h => hK a w σ hh h
  | o :: rest, σ, a, w, hd, hl, hh, h => by
    have ih := nv hE (ops := ops) hK rest
    have hl' : ∀ o ∈ rest, o ∈ ops.toList := fun o ho => hl o (List.mem_cons_of_mem _ ho)
    have hdo := hd o (hl o List.mem_cons_self)
    have step : ∀ (σ1 : St), Rel ρ σ1 a w → (ia E (aq (am P) LW (INc P)) o.dst o.op).holds σ1 (fun ws => Vm.wpOps E (aq (am P) LW (INc P)) ops.toList K rest (σ1.upd ws)) → o.wp P a w (wpList P ops Q rest) Q ∨ (o.asks P a w ∧ LetsOut Q) := by
      rintro σ1 ⟨imm, Λ, F, h⟩ hh
      exact (rx hE h hdo hh).imp (Oper.wp_mono fun a w ⟨ws, h1, h2⟩ => ih _ a w hd hl' h1 h2) id
    simp only [Vm.wpOps] at hh
    simp only [wpList]
    split at hh
    · rename_i hgd
      have hw : Region.wanted o (yielded ops a.tmps) = true := by simp [Region.wanted, hgd]
      rw [if_pos hw]
      exact step σ h hh
    · rename_i j want hgd
      split at hh
      · exact hh.elim
      · rename_i g hj
        split at hh
        · rename_i b hg
          obtain ⟨imm, Λ, F, hX⟩ := h
          have hw := nk hgd hj (hX.slotv (lk hd hj) hg)
          rw [hw]
          have hole := fun hh => ih _ _ _ hd hl' hh (Rel.unset ⟨imm, Λ, F, hX⟩ hdo)
          cases want <;> cases b
          · exact (if_pos (c := (false == false) = true) rfl).symm ▸ step σ ⟨imm, Λ, F, hX⟩ hh
          · exact hole hh
          · exact hole hh
          · exact step σ ⟨imm, Λ, F, hX⟩ hh
        · rename_i u hg
          obtain ⟨imm, Λ, F, hX⟩ := h
          rw [o3 hgd hj (hX.slotu (lk hd hj) hg)]
          exact ih _ _ _ hd hl' hh (Rel.unset ⟨imm, Λ, F, hX⟩ hdo)
        · exact hh.elim

/-! ### regions whose order is drawn -/

def atL (σ : St) : L → A ⊕ HN
  | .s t => .inl (lkS σ.slots t)
  | .n κ => .inr (lkN σ.heap κ.1 κ.2)
/-- the states answer alike -/
def fg (σ τ : St) : Prop := ∀ x, atL σ x = atL τ x

theorem L.is_iff : ∀ x y : L, x.is y = true ↔ x = y
  | .s t, .s u => by simp [L.is]
  | .n κ, .n κ' => by
    obtain ⟨a, b⟩ := κ
    obtain ⟨c, d⟩ := κ'
    simp [L.is]
  | .s _, .n _ => by simp [L.is]
  | .n _, .s _ => by simp [L.is]
theorem nM (x : L) : ∀ l, qi x l = true ↔ x ∈ l
  | [] => by simp [qi]
  | y :: l => by
    simp only [qi]
    by_cases h : x.is y = true
    · rw [if_pos h]; simp [(L.is_iff x y).1 h]
    · rw [if_neg h, nM x l]
      have : x ≠ y := fun e => h ((L.is_iff x y).2 e)
      simp [this]
theorem iY : ∀ l l', jo l l' = true ↔ ∀ x ∈ l, x ∉ l'
  | [], l' => by simp [jo]
  | x :: l, l' => by
    simp only [jo]
    by_cases h : qi x l' = true
    · rw [if_pos h]; simp [(nM x l').1 h]
    · rw [if_neg h, iY l l']
      have : x ∉ l' := fun e => h ((nM x l').2 e)
      simp [this]
theorem lu (x : Nat) : ∀ l, iT x l = true ↔ x ∈ l
  | [] => by simp [iT]
  | y :: l => by
    simp only [iT]
    by_cases h : Nat.beq x y = true
    · rw [if_pos h]; simp [Nat.eq_of_beq_eq_true h]
    · rw [if_neg h, lu x l]
      have : x ≠ y := fun e => h (by subst e; exact Nat.beq_refl x)
      simp [this]

instance : DecidableEq L := fun x y => if h : x.is y = true then .isTrue ((L.is_iff x y).1 h) else .isFalse (fun e => h ((L.is_iff x y).2 e))

theorem jt (σ : St) (v : W) (x : L) : atL (σ.upd1 v) x = if v.loc = x then (match v with | .s _ a => .inl a | .n _ h => .inr h) else atL σ x := by
  cases v with
  | s t a =>
    cases x with
    | s u =>
      show Sum.inl (lkS ((t, a) :: σ.slots) u) = _
      rw [cy]
      simp only [W.loc, L.s.injEq, atL]
      by_cases h : u = t
      · subst h; simp
      · rw [if_neg h, if_neg (fun e => h e.symm)]
    | n κ => simp only [W.loc, reduceCtorEq, if_false]; rfl
  | n κ h =>
    cases x with
    | s u => simp only [W.loc, reduceCtorEq, if_false]; rfl
    | n κ' =>
      show Sum.inr (lkN ((κ, h) :: σ.heap) κ'.1 κ'.2) = _
      rw [aZ]
      simp only [W.loc, L.n.injEq, atL]
      by_cases e : κ' = κ
      · subst e; simp
      · rw [if_neg e, if_neg (fun e' => e e'.symm)]
theorem gv {x : L} : ∀ (ws : List W) {σ τ : St}, atL σ x = atL τ x → atL (σ.upd ws) x = atL (τ.upd ws) x
  | [], _, _, h => h
  | v :: ws, σ, τ, h => gv ws (by rw [jt, jt, h])
theorem dQ {x : L} : ∀ (ws : List W) {σ : St}, x ∉ cK ws → atL (σ.upd ws) x = atL σ x
  | [], _, _ => rfl
  | v :: ws, σ, h => by
    simp only [cK, List.mem_cons, not_or] at h
    show atL ((σ.upd1 v).upd ws) x = _
    rw [dQ ws h.2, jt, if_neg (fun e => h.1 e.symm)]
theorem pu {x : L} : ∀ (ws : List W) {σ τ : St}, x ∈ cK ws → atL (σ.upd ws) x = atL (τ.upd ws) x
  | [], _, _, h => by simp [cK] at h
  | v :: ws, σ, τ, h => by
    show atL ((σ.upd1 v).upd ws) x = atL ((τ.upd1 v).upd ws) x
    by_cases h' : x ∈ cK ws
    · exact pu ws h'
    · simp only [cK, List.mem_cons] at h
      rw [dQ ws h', dQ ws h', jt, jt]
      have : v.loc = x := (h.resolve_right h').symm
      rw [if_pos this, if_pos this]
theorem fg.upd {σ τ : St} (h : fg σ τ) (ws : List W) : fg (σ.upd ws) (τ.upd ws) := fun x => gv ws (h x)
theorem wv {σ : St} {ws ws' : List W} (h : ∀ x ∈ cK ws, x ∉ cK ws') : fg ((σ.upd ws).upd ws') ((σ.upd ws').upd ws) := fun x => by
  by_cases h1 : x ∈ cK ws
  · rw [dQ ws' (h x h1)]
    exact pu ws h1
  · rw [dQ ws h1]
    exact gv ws' (dQ ws h1)

/-- one way through a program: what is read, what is written -/
inductive Run : Pg → St → List L → List W → Prop
  | done (ws : List W) (σ : St) : Run (.done ws) σ [] ws
  | gs {t : Nat} {f : A → Pg} {σ : St} {R : List L} {ws : List W} : Run (f (lkS σ.slots t)) σ R ws → Run (.gs t f) σ (.s t :: R) ws
  | gn {κ : Key} {f : HN → Pg} {σ : St} {R : List L} {ws : List W} : Run (f (lkN σ.heap κ.1 κ.2)) σ R ws → Run (.gn κ f) σ (.n κ :: R) ws
  | need {φ : Prop} {p : Pg} {σ : St} {R : List L} {ws : List W} : φ → Run p σ R ws → Run (.need φ p) σ R ws
  | ex {α : Type} {f : α → Pg} {σ : St} {R : List L} {ws : List W} (x : α) : Run (f x) σ R ws → Run (.ex α f) σ R ws
  | yes {p q : Pg} {σ : St} {R : List L} {ws : List W} : Run p σ R ws → Run (.br true p q) σ R ws
  | no {p q : Pg} {σ : St} {R : List L} {ws : List W} : Run q σ R ws → Run (.br false p q) σ R ws
  | wr {ws1 : List W} {p : Pg} {σ : St} {R : List L} {ws : List W} : Run p (σ.upd ws1) R ws → Run (.wr ws1 p) σ R (ws1 ++ ws)

theorem Run.holds {p : Pg} {σ : St} {R : List L} {ws : List W} (h : Run p σ R ws) : ∀ {K : List W → Prop}, K ws → p.holds σ K := by
  induction h with
  | done => exact fun hK => hK
  | gs _ ih => exact ih
  | gn _ ih => exact ih
  | need hφ _ ih => exact fun hK => ⟨hφ, ih hK⟩
  | ex x _ ih => exact fun hK => ⟨x, ih hK⟩
  | yes _ ih => exact fun hK => ih hK
  | no _ ih => exact fun hK => ih hK
  | wr _ ih => exact fun {K} hK => ih (K := fun ws2 => K (_ ++ ws2)) hK
theorem Run.agree {p : Pg} {σ : St} {R : List L} {ws : List W} (h : Run p σ R ws) : ∀ {τ : St}, (∀ x ∈ R, atL σ x = atL τ x) → Run p τ R ws := by
  induction h with
  | done => exact fun _ => .done _ _
  | gs h ih =>
    intro τ hR
    have h1 := hR _ List.mem_cons_self
    simp only [atL, Sum.inl.injEq] at h1
    refine .gs ?_
    rw [← h1]
    exact ih (fun x hx => hR x (List.mem_cons_of_mem _ hx))
  | gn h ih =>
    intro τ hR
    have h1 := hR _ List.mem_cons_self
    simp only [atL, Sum.inr.injEq] at h1
    refine .gn ?_
    rw [← h1]
    exact ih (fun x hx => hR x (List.mem_cons_of_mem _ hx))
  | need hφ _ ih => exact fun hR => .need hφ (ih hR)
  | ex x _ ih => exact fun hR => .ex x (ih hR)
  | yes _ ih => exact fun hR => .yes (ih hR)
  | no _ ih => exact fun hR => .no (ih hR)
  | wr _ ih => exact fun hR => .wr (ih (fun x hx => gv _ (hR x hx)))
theorem tR : ∀ {p : Pg} {σ : St} {R0 : List L} {K : List W → List L → Prop}, p.log σ R0 K → ∃ R ws R', Run p σ R ws ∧ K ws R' ∧ (∀ x ∈ R, x ∈ R') ∧ ∀ x ∈ R0, x ∈ R' := by
  intro p
  induction p with
  | fail => exact fun h => h.elim
  | done ws => exact fun {σ R0 K} h => ⟨[], ws, R0, .done _ _, h, by simp, fun _ h => h⟩
  | gs t f ih =>
    intro σ R0 K h
    obtain ⟨R, ws, R', h1, h2, h3, h4⟩ := ih _ h
    refine ⟨_, ws, R', .gs h1, h2, fun x hx => ?_, fun x hx => h4 x (List.mem_cons_of_mem _ hx)⟩
    rcases List.mem_cons.1 hx with rfl | hx
    · exact h4 _ List.mem_cons_self
    · exact h3 x hx
  | gn κ f ih =>
    intro σ R0 K h
    obtain ⟨R, ws, R', h1, h2, h3, h4⟩ := ih _ h
    refine ⟨_, ws, R', .gn h1, h2, fun x hx => ?_, fun x hx => h4 x (List.mem_cons_of_mem _ hx)⟩
    rcases List.mem_cons.1 hx with rfl | hx
    · exact h4 _ List.mem_cons_self
    · exact h3 x hx
  | need φ p ih =>
    intro σ R0 K h
    obtain ⟨R, ws, R', h1, h2⟩ := ih h.2
    exact ⟨R, ws, R', .need h.1 h1, h2⟩
  | ex α f ih =>
    intro σ R0 K h
    obtain ⟨x, h⟩ := h
    obtain ⟨R, ws, R', h1, h2⟩ := ih x h
    exact ⟨R, ws, R', .ex x h1, h2⟩
  | br b p q ihp ihq =>
    intro σ R0 K h
    cases b with
    | true => obtain ⟨R, ws, R', h1, h2⟩ := ihp h; exact ⟨R, ws, R', .yes h1, h2⟩
    | false => obtain ⟨R, ws, R', h1, h2⟩ := ihq h; exact ⟨R, ws, R', .no h1, h2⟩
  | al φ f ih => exact fun h => h.elim
  | opq Φ => exact fun h => h.elim
  | wr ws p ih =>
    intro σ R0 K h
    obtain ⟨R, ws', R', h1, h2⟩ := ih h
    exact ⟨R, _, R', .wr h1, h2⟩

/-- an operation with its guard -/
def gPg (E : TE) (C : Ctx) (ops : List Oper) (o : Oper) : Pg := match o.guard with
  | none => ia E C o.dst o.op
  | some (j, want) => match (ops[j]?).bind (·.dst) with
    | none => .fail
    | some g => .gs g fun v => match v with
      | .lit (.bool b) => if b = want then ia E C o.dst o.op else .done (put o.dst unset)
      | .lit (.tuple _) => .done (put o.dst unset)
      | _ => .fail

structure iR where
  i : Nat
  R : List L
  ws : List W
inductive eN (E : TE) (C : Ctx) (ops : List Oper) : St → List iR → St → Prop
  | nil (σ : St) : eN E C ops σ [] σ
  | cons {σ τ : St} {e : iR} {l : List iR} {o : Oper} : ops[e.i]? = some o → Run (gPg E C ops o) σ e.R e.ws → eN E C ops (σ.upd e.ws) l τ → eN E C ops σ (e :: l) τ

def oU (e f : iR) : Prop := (∀ x ∈ cK e.ws, x ∉ f.R) ∧ (∀ x ∈ cK e.ws, x ∉ cK f.ws) ∧ ∀ x ∈ cK f.ws, x ∉ e.R

theorem eN.like {C : Ctx} {ops : List Oper} {σ τ : St} {l : List iR} (h : eN E C ops σ l τ) : ∀ {σ' : St}, fg σ σ' → ∃ τ', eN E C ops σ' l τ' ∧ fg τ τ' := by
  induction h with
  | nil σ => exact fun {σ'} h => ⟨σ', .nil _, h⟩
  | cons ho hr _ ih =>
    intro σ' hl
    obtain ⟨τ', h1, h2⟩ := ih (hl.upd _)
    exact ⟨τ', .cons ho (hr.agree (fun x _ => hl x)) h1, h2⟩
theorem eN.swap {C : Ctx} {ops : List Oper} {σ τ : St} {e f : iR} {l : List iR} (h : eN E C ops σ (e :: f :: l) τ) (hi : oU e f) : ∃ τ', eN E C ops σ (f :: e :: l) τ' ∧ fg τ τ' := by
  cases h with
  | cons ho hr h =>
    cases h with
    | cons ho' hr' h =>
      obtain ⟨h1, h2, h3⟩ := hi
      obtain ⟨τ', hc, hl⟩ := h.like (wv h2)
      refine ⟨τ', .cons ho' (hr'.agree fun x hx => dQ _ (fun hx' => h1 x hx' hx)) (.cons ho (hr.agree fun x hx => (dQ _ (fun hx' => h3 x hx' hx)).symm) hc), hl⟩
theorem fg.trans {σ τ υ : St} (h : fg σ τ) (h' : fg τ υ) : fg σ υ := fun x => (h x).trans (h' x)
theorem eN.front {C : Ctx} {ops : List Oper} {e : iR} {l2 : List iR} : ∀ (l1 : List iR) {σ τ : St}, eN E C ops σ (l1 ++ e :: l2) τ → (∀ f ∈ l1, oU f e) → ∃ τ', eN E C ops σ (e :: (l1 ++ l2)) τ' ∧ fg τ τ'
  | [], σ, τ, h, _ => ⟨τ, h, fun _ => rfl⟩
  | f :: l1, σ, τ, h, hi => by
    cases h with
    | cons ho hr h =>
      obtain ⟨τ', hc, hl⟩ := eN.front l1 h (fun g hg => hi g (List.mem_cons_of_mem _ hg))
      obtain ⟨τ2, hc2, hl2⟩ := eN.swap (.cons ho hr hc) (hi f List.mem_cons_self)
      exact ⟨τ2, hc2, hl.trans hl2⟩
end
end Go.Vm
/- Regions whose order is drawn: every order does what the order of the text does. -/
namespace Go.Vm
section
variable {P : Program} {E : TE} {LW : Code → (Ex → St → Prop) → St → Prop} {w : World} {σ : St} {Λ : Lam} {imm : Set} {F : Key → Set} {ρ : Env} {o : Oper} {a : Act} {Q : Exit → Act → World → Prop}

def Dir (ops : List Oper) (i j : Nat) : Prop := ∃ o, ops[i]? = some o ∧ j ∈ cH o.after.toList
inductive Anc (ops : List Oper) : Nat → Nat → Prop
  | one {i j : Nat} : Dir ops i j → Anc ops i j
  | more {i m j : Nat} : Dir ops i m → Anc ops m j → Anc ops i j

theorem jA {e : Edge} : ∀ {es : List Edge}, e ∈ es → ig e = true → e.on ∈ cH es
  | x :: es, h, hb => by
    simp only [cH]
    rcases List.mem_cons.1 h with rfl | h
    · rw [if_pos hb]; exact List.mem_cons_self
    · split
      · exact List.mem_cons_of_mem _ (jA h hb)
      · exact jA h hb
theorem jE {j : Nat} : ∀ {es : List Edge}, j ∈ cH es → ∃ e ∈ es, ig e = true ∧ e.on = j
  | x :: es, h => by
    simp only [cH] at h
    split at h
    · rename_i hb
      rcases List.mem_cons.1 h with rfl | h
      · exact ⟨x, List.mem_cons_self, hb, rfl⟩
      · obtain ⟨e, h1, h2⟩ := jE h; exact ⟨e, List.mem_cons_of_mem _ h1, h2⟩
    · obtain ⟨e, h1, h2⟩ := jE h; exact ⟨e, List.mem_cons_of_mem _ h1, h2⟩
theorem mD (i : Nat) : ∀ l, lc i l = true → ∀ j ∈ l, j < i
  | [], _, _, h => by simp at h
  | x :: l, h, j, hj => by
    simp only [lc] at h
    split at h
    · rename_i hb
      rcases List.mem_cons.1 hj with rfl | hj
      · simpa [Nat.blt_eq] using hb
      · exact mD i l h j hj
    · cases h

def rk (ops : List Oper) (es : List Ent) : Prop := ∀ e ∈ es, ∀ j ∈ e.anc, Anc ops e.i j
theorem rX {ops : List Oper} {m j : Nat} : ∀ {es : List Ent}, rk ops es → j ∈ pc m es → Anc ops m j
  | [], _, h => by simp [pc] at h
  | e :: es, ho, h => by
    simp only [pc] at h
    split at h
    · rename_i hb
      rw [← Nat.eq_of_beq_eq_true hb]
      exact ho e List.mem_cons_self j h
    · exact rX (fun e he => ho e (List.mem_cons_of_mem _ he)) h
theorem ly {j : Nat} : ∀ {xs l : List Nat}, j ∈ lQ xs l → j ∈ xs ∨ j ∈ l
  | [], l, h => .inr h
  | x :: xs, l, h => by
    simp only [lQ] at h
    split at h
    · exact (ly h).imp (List.mem_cons_of_mem _) id
    · rcases List.mem_cons.1 h with rfl | h
      · exact .inl List.mem_cons_self
      · exact (ly h).imp (List.mem_cons_of_mem _) id
theorem pF {ops : List Oper} {i j : Nat} {es : List Ent} (ho : rk ops es) : ∀ {ds : List Nat}, (∀ m ∈ ds, Dir ops i m) → j ∈ iV es ds → Anc ops i j
  | [], _, h => by simp [iV] at h
  | d :: ds, hd, h => by
    simp only [iV] at h
    rcases ly h with h | h
    · rcases List.mem_cons.1 h with rfl | h
      · exact .one (hd _ List.mem_cons_self)
      · exact .more (hd d List.mem_cons_self) (rX ho h)
    · exact pF ho (fun m hm => hd m (List.mem_cons_of_mem _ hm)) h

def IndE (e : Ent) (f : iR) : Prop := (∀ x ∈ e.wr, x ∉ f.R) ∧ (∀ x ∈ e.wr, x ∉ cK f.ws) ∧ ∀ x ∈ cK f.ws, x ∉ e.rd
theorem ju {anc : List Nat} {rd wr : List L} : ∀ {es : List Ent}, dp anc rd wr es = true → ∀ e ∈ es, e.i ∈ anc ∨ ((∀ x ∈ e.wr, x ∉ rd) ∧ (∀ x ∈ e.wr, x ∉ wr) ∧ ∀ x ∈ wr, x ∉ e.rd)
  | [], _, e, h => by simp at h
  | f :: es, h, e, he => by
    simp only [dp] at h
    split at h
    · rename_i hn
      rcases List.mem_cons.1 he with rfl | he
      · exact .inl ((lu _ _).1 hn)
      · exact ju h e he
    · split at h
      · rename_i h1
        split at h
        · rename_i h2
          split at h
          · rename_i h3
            rcases List.mem_cons.1 he with rfl | he
            · exact .inr ⟨(iY _ _).1 h1, (iY _ _).1 h2, (iY _ _).1 h3⟩
            · exact ju h e he
          · cases h
        · cases h
      · cases h

def mK (E : TE) (C : Ctx) (ops : List Oper) (K : St → Prop) (n i : Nat) (es : List Ent) (σ : St) : Prop :=
  ∃ l τ τ', eN E C ops σ l τ' ∧ fg τ τ' ∧ K τ ∧ l.map (·.i) = List.range' i n ∧ l.Pairwise (fun e f => Anc ops f.i e.i ∨ oU e f) ∧ (∀ e ∈ es, ∀ f ∈ l, Anc ops f.i e.i ∨ IndE e f) ∧ (∀ f ∈ l, ∀ j, Dir ops f.i j → j < f.i)

theorem pk {C : Ctx} {ops : List Oper} {K : St → Prop} : ∀ (rest : List Oper) (i : Nat) (es : List Ent) (σ : St), eu E C ops K rest i es σ → rk ops es → (∀ j, rest[j]? = ops[i + j]?) →
    mK E C ops K rest.length i es σ
  | [], i, es, σ, hh, _, _ => ⟨[], σ, σ, .nil _, fun _ => rfl, hh, by simp, by simp, by simp, by simp⟩
  | o :: rest, i, es, σ, hh, hes, hops => by
    have h0 : ops[i]? = some o := by simpa using (hops 0).symm
    have hops' : ∀ j, rest[j]? = ops[i + 1 + j]? := fun j => by have := hops (j + 1); simpa [Nat.add_assoc, Nat.add_comm 1 j] using this
    simp only [eu] at hh
    obtain ⟨hbelow, hh⟩ := hh
    have hdir : ∀ m ∈ cH o.after.toList, Dir ops i m := fun m hm => ⟨o, h0, hm⟩
    -- one kZ, and those eb it
    have go : ∀ (R R' : List L) (ws : List W) (σ1 : St), Run (gPg E C ops o) σ R ws → (∀ x ∈ R, x ∈ R') → dp (iV es (cH o.after.toList)) R' (cK ws) es = true → fg (σ1.upd ws) (σ.upd ws) →
        eu E C ops K rest (i + 1) (⟨i, iV es (cH o.after.toList), R', cK ws⟩ :: es) (σ1.upd ws) →
        mK E C ops K (o :: rest).length i es σ := by
      intro R R' ws σ1 hrun hsub hap hlike hw
      have hes' : rk ops (⟨i, iV es (cH o.after.toList), R', cK ws⟩ :: es) := by
        intro e he
        rcases List.mem_cons.1 he with rfl | he
        · exact fun j hj => pF hes hdir hj
        · exact hes e he
      obtain ⟨l, τ, τ', r1, r2, r3, r4, r5, r6, r7⟩ := pk rest (i + 1) _ _ hw hes' hops'
      obtain ⟨τ2, q1, q2⟩ := r1.like hlike
      refine ⟨⟨i, R, ws⟩ :: l, τ, τ2, .cons (e := ⟨i, R, ws⟩) h0 hrun q1, r2.trans q2, r3, ?_, ?_, ?_, ?_⟩
      · simp [r4, List.range'_succ]
      · refine List.pairwise_cons.2 ⟨fun f hf => ?_, r5⟩
        rcases r6 _ List.mem_cons_self f hf with h | ⟨h1, h2, h3⟩
        · exact .inl h
        · exact .inr ⟨h1, h2, fun x hx hR => h3 x hx (hsub x hR)⟩
      · intro e he f hf
        rcases List.mem_cons.1 hf with rfl | hf
        · rcases ju hap e he with h | ⟨h1, h2, h3⟩
          · exact .inl (pF hes hdir h)
          · exact .inr ⟨fun x hx hR => h1 x hx (hsub x hR), h2, h3⟩
        · exact r6 e (List.mem_cons_of_mem _ he) f hf
      · intro f hf j hj
        rcases List.mem_cons.1 hf with rfl | hf
        · obtain ⟨o', h1, h2⟩ := hj
          rw [h0] at h1
          cases h1
          exact mD i _ hbelow j h2
        · exact r7 f hf j hj
    split at hh
    · rename_i hgd
      obtain ⟨R, ws, R', h1, ⟨h2, h3⟩, h4, _⟩ := tR hh
      refine go R R' ws σ ?_ h4 h2 (fun _ => rfl) h3
      simp only [gPg, hgd]
      exact h1
    · rename_i j want hgd
      split at hh
      · exact hh.elim
      · rename_i g hj
        split at hh
        · rename_i b hg
          have run : b = want → (ia E C o.dst o.op).log σ [.s g] (fun ws R => dp (iV es (cH o.after.toList)) R (cK ws) es = true ∧ eu E C ops K rest (i + 1) (⟨i, iV es (cH o.after.toList), R, cK ws⟩ :: es) (σ.upd ws)) → mK E C ops K (o :: rest).length i es σ := fun hb hq => by
            subst hb
            obtain ⟨R, ws, R', h1, ⟨h2, h3⟩, h4, h5⟩ := tR hq
            refine go (.s g :: R) R' ws σ ?_ (fun x hx => ?_) h2 (fun x => rfl) h3
            · simp only [gPg, hgd, hj]
              refine .gs ?_
              rw [hg]
              simp only [if_true]
              exact h1
            · rcases List.mem_cons.1 hx with rfl | hx
              · exact h5 _ List.mem_cons_self
              · exact h4 x hx
          have skip : b ≠ want → (dp (iV es (cH o.after.toList)) [.s g] (cK (put o.dst unset)) es = true ∧ eu E C ops K rest (i + 1) (⟨i, iV es (cH o.after.toList), [.s g], cK (put o.dst unset)⟩ :: es) (σ.upd (put o.dst unset))) → mK E C ops K (o :: rest).length i es σ := fun hb hq => by
            obtain ⟨h2, h3⟩ := hq
            refine go [.s g] [.s g] (put o.dst unset) σ ?_ (fun x hx => hx) h2 (fun x => rfl) h3
            simp only [gPg, hgd, hj]
            refine .gs ?_
            rw [hg]
            simp only [if_neg hb]
            exact .done _ _
          cases want <;> cases b
          · exact run rfl hh
          · exact skip (by simp) hh
          · exact skip (by simp) hh
          · exact run rfl hh
        · rename_i u hg
          obtain ⟨h2, h3⟩ := hh
          refine go [.s g] [.s g] (put o.dst unset) σ ?_ (fun x hx => hx) h2 (fun x => rfl) h3
          simp only [gPg, hgd, hj]
          refine .gs ?_
          rw [hg]
          exact .done _ _
        · exact hh.elim

theorem vm (hE : EOk P E) {ops : Array Oper} (hda : ∀ o ∈ ops.toList, ∀ t, o.dst = some t → t < ρ.n) (hd : ∀ t, o.dst = some t → t < ρ.n) {K : List W → Prop} {Kn : Act → World → Prop} {i : Nat} (hi : ops[i]? = some o) (hK : ∀ ws a w, K ws → Rel ρ (σ.upd ws) a w → Kn a w)
    (hh : (gPg E (aq (am P) LW (INc P)) ops.toList o).holds σ K) (h : Rel ρ σ a w) : wpOp P ops Q i Kn a w := by
  have step : (ia E (aq (am P) LW (INc P)) o.dst o.op).holds σ K → o.wp P a w Kn Q ∨ (o.asks P a w ∧ LetsOut Q) := fun hh => by
    obtain ⟨imm, Λ, F, hX⟩ := h
    exact (rx hE hX hd hh).imp (Oper.wp_mono fun a w ⟨ws, h1, h2⟩ => hK ws a w h1 h2) id
  simp only [wpOp, hi]
  unfold gPg at hh
  split at hh
  · rename_i hgd
    have hw : Region.wanted o (yielded ops a.tmps) = true := by simp [Region.wanted, hgd]
    rw [if_pos hw]
    exact step hh
  · rename_i j want hgd
    split at hh
    · exact hh.elim
    · rename_i g hj
      simp only [Pg.holds] at hh
      split at hh
      · rename_i b hg
        obtain ⟨imm, Λ, F, hX⟩ := h
        have hw := nk hgd hj (hX.slotv (lk hda hj) hg)
        rw [hw]
        split at hh
        · rename_i hb
          subst hb
          rw [if_pos (by simp)]
          exact step hh
        · rename_i hb
          rw [if_neg (by simpa using hb)]
          exact hK _ _ _ hh (Rel.unset ⟨imm, Λ, F, hX⟩ hd)
      · rename_i u hg
        obtain ⟨imm, Λ, F, hX⟩ := h
        rw [o3 hgd hj (hX.slotu (lk hda hj) hg)]
        exact hK _ _ _ hh (Rel.unset ⟨imm, Λ, F, hX⟩ hd)
      · exact hh.elim

theorem fg.rel {σ τ : St} (hl : fg σ τ) (h : Rel ρ σ a w) : Rel ρ τ a w :=
  h.same (fun t => by have := hl (.s t); simp only [atL, Sum.inl.injEq] at this; exact this.symm) (fun κ => by have := hl (.n κ); simp only [atL, Sum.inr.injEq] at this; exact this.symm)

theorem u4 (hE : EOk P E) {ops : Array Oper} (hd : ∀ o ∈ ops.toList, ∀ t, o.dst = some t → t < ρ.n) {τ0 : St} (hK : ∀ a w, Rel ρ τ0 a w → Q .normal a w) : ∀ (fuel : Nat) (l : List iR) (listed : Array Bool) (σ τ : St) (a : Act) (w : World),
    eN E (aq (am P) LW (INc P)) ops.toList σ l τ → fg τ0 τ → l.Pairwise (fun e f => Anc ops.toList f.i e.i ∨ oU e f) → l.Pairwise (fun e f => e.i < f.i) → (∀ f ∈ l, ∀ j, Dir ops.toList f.i j → j < f.i) →
    (∀ i, i < ops.size → (listed.getD i true = false ↔ ∃ e ∈ l, e.i = i)) → (∀ e ∈ l, e.i < ops.size) → listed.size = ops.size → (∀ i j, Dir ops.toList i j → i < ops.size → listed.getD i true = true → listed.getD j false = true) → l.length ≤ fuel → Rel ρ σ a w → wpAny P .any ops Q fuel listed a w := by
  intro fuel
  induction fuel with
  | zero =>
    intro l listed σ τ a w hc hl _ _ _ hlist _ _ _ hlen hr
    obtain rfl : l = [] := List.eq_nil_of_length_eq_zero (by omega)
    cases hc
    refine ⟨?_, hK a w (fg.rel (τ := τ0) (fun x => (hl x).symm) hr)⟩
    unfold Region.ready
    rw [List.filter_eq_nil_iff]
    intro i hi
    simp only [List.mem_range] at hi
    have : ¬ (listed.getD i true = false) := fun h => by obtain ⟨e, he, _⟩ := (hlist i hi).1 h; simp at he
    simp only [Bool.not_eq_false] at this
    simp [this]
  | succ fuel ih =>
    intro l listed σ τ a w hc hl hp hs hlex hlist hin hsz hcl hlen hr
    -- what is ready
    have ready : ∀ i, i ∈ Region.ready .any ops listed ↔ i < ops.size ∧ listed.getD i true = false ∧ ∀ j, Dir ops.toList i j → listed.getD j false = true := by
      intro i
      unfold Region.ready
      rw [List.mem_filter, List.mem_range]
      refine and_congr_right fun hi => ?_
      have hoi : ops[i]? = some ops[i] := by simp [hi]
      simp only [hoi, Option.map_some, Option.getD_some, Bool.and_eq_true, Array.all_eq_true_iff_forall_mem, Bool.or_eq_true, Bool.not_eq_eq_eq_not]
      refine and_congr_right fun _ => ⟨fun h j hj => ?_, fun h e he => ?_⟩
      · obtain ⟨o, ho, hj⟩ := hj
        rw [Array.getElem?_toList, hoi] at ho
        cases ho
        obtain ⟨e, he, hb, rfl⟩ := jE hj
        rcases h e (Array.mem_toList_iff.1 he) with h' | h'
        · unfold ig at hb
          unfold Region.binds at h'
          cases hg : e.ground <;> rw [hg] at hb h' <;> simp at hb h'
        · exact h'
      · by_cases hb : ig e = true
        · exact .inr (h e.on ⟨ops[i], by rw [Array.getElem?_toList, hoi], jA (Array.mem_toList_iff.2 he) hb⟩)
        · left
          unfold ig at hb
          unfold Region.binds
          cases hg : e.ground <;> rw [hg] at hb <;> simp at hb ⊢ <;> rfl
    refine ⟨fun hnil => ?_, fun i hi => ?_⟩
    · cases l with
      | nil => cases hc; exact hK a w (fg.rel (τ := τ0) (fun x => (hl x).symm) hr)
      | cons e l =>
        exfalso
        have : e.i ∈ Region.ready .any ops listed := by
          refine (ready e.i).2 ⟨hin e List.mem_cons_self, (hlist e.i (hin e List.mem_cons_self)).2 ⟨e, List.mem_cons_self, rfl⟩, fun j hj => ?_⟩
          have hlt := hlex e List.mem_cons_self j hj
          have hjs : j < ops.size := Nat.lt_trans hlt (hin e List.mem_cons_self)
          have h1 : ¬ (listed.getD j true = false) := fun h => by
            obtain ⟨f, hf, hfj⟩ := (hlist j hjs).1 h
            rcases List.mem_cons.1 hf with rfl | hf
            · omega
            · have := (List.pairwise_cons.1 hs).1 f hf; omega
          simp only [Bool.not_eq_false] at h1
          rw [Array.getD_eq_getD_getElem?] at h1 ⊢
          have : listed[j]? = some listed[j] := by simp [hsz, hjs]
          rw [this] at h1 ⊢
          exact h1
        rw [hnil] at this
        simp at this
    · obtain ⟨hi1, hi2, hi3⟩ := (ready i).1 hi
      obtain ⟨e, he, rfl⟩ := (hlist i hi1).1 hi2
      obtain ⟨l1, l2, rfl⟩ := List.append_of_mem he
      have hanc : ∀ j, Anc ops.toList e.i j → listed.getD j false = true := by
        have gen : ∀ i j, Anc ops.toList i j → (∀ m, Dir ops.toList i m → listed.getD m false = true) → listed.getD j false = true := by
          intro i j h
          induction h with
          | one h => exact fun hm => hm _ h
          | @more i m j h _ ih' =>
            intro hm
            have h1 := hm m h
            have hms : m < ops.size := by
              rw [Array.getD_eq_getD_getElem?] at h1
              rcases Nat.lt_or_ge m ops.size with h2 | h2
              · exact h2
              · rw [Array.getElem?_eq_none (by omega)] at h1; simp at h1
            have h1' : listed.getD m true = true := by
              rw [Array.getD_eq_getD_getElem?] at h1 ⊢
              have : listed[m]? = some listed[m] := by simp [hsz, hms]
              rw [this] at h1 ⊢
              exact h1
            exact ih' (fun m' hm' => hcl m m' hm' hms h1')
        exact fun j h => gen _ j h hi3
      have hfr : ∀ f ∈ l1, oU f e := by
        intro f hf
        have hpw := List.pairwise_append.1 hp
        rcases hpw.2.2 f hf e List.mem_cons_self with h | h
        · exfalso
          have h1 := hanc _ h
          have hfl := (hlist f.i (hin f (List.mem_append_left _ hf))).2 ⟨f, List.mem_append_left _ hf, rfl⟩
          have hfs := hin f (List.mem_append_left _ hf)
          rw [Array.getD_eq_getD_getElem?] at h1 hfl
          have : listed[f.i]? = some listed[f.i] := by simp [hsz, hfs]
          rw [this] at h1 hfl
          simp at h1 hfl
          rw [h1] at hfl; cases hfl
        · exact h
      obtain ⟨τ', hc', hl'⟩ := hc.front l1 hfr
      cases hc' with
      | cons ho hrun hrest =>
        rename_i o
        have ho' : ops[e.i]? = some o := by rw [← Array.getElem?_toList]; exact ho
        have hom : o ∈ ops.toList := List.mem_of_getElem? ho
        refine vm hE hd (hd o hom) (K := fun ws => ws = e.ws) ho' ?_ (hrun.holds rfl) hr
        rintro ws a' w' rfl hr'
        have sub : ∀ f ∈ l1 ++ l2, f ∈ l1 ++ e :: l2 := fun f hf => by
          rcases List.mem_append.1 hf with h | h
          · exact List.mem_append_left _ h
          · exact List.mem_append_right _ (List.mem_cons_of_mem _ h)
        have hsub : (l1 ++ l2).Sublist (l1 ++ e :: l2) := (List.sublist_cons_self e l2).append_left l1
        refine ih (l1 ++ l2) _ _ _ a' w' hrest (hl.trans hl') (hp.sublist hsub) (hs.sublist hsub) (fun f hf => hlex f (sub f hf)) ?_ (fun f hf => hin f (sub f hf)) (by simp [hsz]) ?_ ?_ hr'
        · intro i hi
          have hne : ∀ f ∈ l1 ++ l2, f.i ≠ e.i := by
            intro f hf
            have hpw := List.pairwise_append.1 hs
            rcases List.mem_append.1 hf with h | h
            · have := hpw.2.2 f h e List.mem_cons_self; omega
            · have := (List.pairwise_cons.1 hpw.2.1).1 f h; omega
          rw [Array.getD_eq_getD_getElem?, Array.getElem?_setIfInBounds]
          by_cases hie : e.i = i
          · rw [if_pos hie]
            simp only [hsz, hie, hi, if_true, Option.getD_some, Bool.true_eq_false, false_iff]
            rintro ⟨f, hf, hfi⟩
            exact hne f hf (hfi.trans hie.symm)
          · rw [if_neg hie, ← Array.getD_eq_getD_getElem?, hlist i hi]
            constructor
            · rintro ⟨f, hf, rfl⟩
              rcases List.mem_append.1 hf with h | h
              · exact ⟨f, List.mem_append_left _ h, rfl⟩
              · rcases List.mem_cons.1 h with rfl | h
                · exact absurd rfl hie
                · exact ⟨f, List.mem_append_right _ h, rfl⟩
            · rintro ⟨f, hf, rfl⟩
              exact ⟨f, sub f hf, rfl⟩
        · intro i j hij hi hli
          have keep : listed.getD j false = true → (listed.setIfInBounds e.i true).getD j false = true := fun h => by
            rw [Array.getD_eq_getD_getElem?, Array.getElem?_setIfInBounds]
            by_cases hej : e.i = j
            · rw [if_pos hej]; simp [hsz, hi1]
            · rw [if_neg hej, ← Array.getD_eq_getD_getElem?]; exact h
          rw [Array.getD_eq_getD_getElem?, Array.getElem?_setIfInBounds] at hli
          by_cases hie : e.i = i
          · exact keep (hi3 j (hie ▸ hij))
          · rw [if_neg hie, ← Array.getD_eq_getD_getElem?] at hli
            exact keep (hcl i j hij hi hli)
        · simp only [List.length_append, List.length_cons] at hlen ⊢
          omega

/-- a region whose order is drawn -/
theorem pr (hE : EOk P E) (hm : P.follows .mixedOrders = true) {ops : Array Oper} {K : St → Prop} (hK : ∀ a w σ, K σ → Rel ρ σ a w → Q .normal a w) (hd : ∀ o ∈ ops.toList, ∀ t, o.dst = some t → t < ρ.n) {id : Nat}
    (hh : eu E (aq (am P) LW (INc P)) ops.toList K ops.toList 0 [] σ) (h : Rel ρ σ a w) : (Code.region id ops true).wp P Q a w := by
  refine wp_region_any hm ?_
  obtain ⟨l, τ, τ', r1, r2, r3, r4, r5, _, r7⟩ := pk ops.toList 0 [] σ hh (fun e he => by simp at he) (fun j => by simp)
  have hmem : ∀ i, (∃ e ∈ l, e.i = i) ↔ i < ops.size := fun i => by
    have : i ∈ l.map (·.i) ↔ i < ops.size := by rw [r4, List.mem_range']; simp
    rw [← this]; simp
  refine u4 hE hd (fun a w hr => hK a w τ r3 hr) ops.size l _ σ τ' a _ r1 r2 r5 ?_ r7 ?_ ?_ (by simp) ?_ ?_ ?_
  · have : (l.map (·.i)).Pairwise (· < ·) := by rw [r4]; exact List.pairwise_lt_range'
    exact List.pairwise_map.1 this
  · intro i hi
    have hg : (Array.replicate ops.size false).getD i true = false := by
      rw [Array.getD_eq_getD_getElem?]; simp [hi]
    rw [hg, hmem i]
    simp [hi]
  · exact fun e he => (hmem e.i).1 ⟨e, he, rfl⟩
  · intro i j _ hi hli
    rw [Array.getD_eq_getD_getElem?] at hli
    simp [hi] at hli
  · have := congrArg List.length r4
    simp at this
    omega
  · obtain ⟨imm, Λ, F, hX⟩ := h
    exact ⟨imm, Λ, F, hX.draw⟩
end
end Go.Vm
/- Code, loops, functions. -/
namespace Go.Vm
section
variable {P : Program} {E : TE} {w : World} {σ : St} {Λ : Lam} {imm : Set} {F : Key → Set} {ρ : Env} {o : Oper} {a : Act}

/-- what is promised of a state, promised of the machine -/
def v7 (ρ : Env) (Q : Ex → St → Prop) : Exit → Act → World → Prop
  | .normal, a, w => ∃ σ, Q .normal σ ∧ Rel ρ σ a w
  | .exit id, a, w => ∃ σ, Q (.exit id) σ ∧ Rel ρ σ a w
  | .ret, a, w => ∃ σ, Q .ret σ ∧ Rel ρ σ a w
  | _, _, _ => False

/-- what code does from a state on -/
def pV (P : Program) (c : Code) (Q : Ex → St → Prop) (σ : St) : Prop := ∀ ρ a w, cY ρ.n c = true → Rel ρ σ a w → c.wp P (v7 ρ Q) a w
/-- loops, in the machine's terms -/
def LWc (P : Program) (c : Code) (Q : Ex → St → Prop) (σ : St) : Prop := (jG c = false → pV P (.loop c) Q σ) ∧ ∀ l r, c = .seq (.label l) r → pV P r Q σ
abbrev fN (P : Program) : Ctx := aq (am P) (LWc P) (INc P)

theorem iM {n : Nat} : ∀ {l : List Oper}, oN n l = true → ∀ o ∈ l, ∀ t, o.dst = some t → t < n
  | [], _, o, ho => by simp at ho
  | x :: l, h, o, ho => by
    simp only [oN] at h
    split at h
    · rename_i hx
      rcases List.mem_cons.1 ho with rfl | ho
      · intro t ht; rw [hx] at ht; cases ht
      · exact iM h o ho
    · rename_i d hx
      split at h
      · rename_i hb
        rcases List.mem_cons.1 ho with rfl | ho
        · intro t ht; rw [hx] at ht; cases ht; simpa [Nat.blt_eq] using hb
        · exact iM h o ho
      · cases h

theorem dO (hE : EOk P E) (hm : P.follows .mixedOrders = true) : ∀ (c : Code) (Q : Ex → St → Prop) (σ : St), wpC E (fN P) c Q σ → pV P c Q σ
  | .skip, Q, σ, hh, ρ, a, w, _, h => wp_skip ⟨σ, hh, h⟩
  | .region id ops false, Q, σ, hh, ρ, a, w, hc, h => by
    simp only [wpC] at hh
    cases hg : iT id E.gap with
    | true => rw [hg] at hh; exact hh.2 0 _ rfl ρ a w hc h
    | false => rw [hg] at hh; exact wp_region_list (nv hE (K := Q .normal) (fun a w σ hq hr => ⟨σ, hq, hr⟩) ops.toList σ a w (iM hc) (fun _ h => h) hh h)
  | .region id ops true, Q, σ, hh, ρ, a, w, hc, h => by
    simp only [wpC] at hh
    cases hg : iT id E.gap with
    | true => rw [hg] at hh; exact hh.2 0 _ rfl ρ a w hc h
    | false => rw [hg] at hh; exact pr hE hm (K := Q .normal) (fun a w σ hq hr => ⟨σ, hq, hr⟩) (iM hc) hh h
  | .seq x y, Q, σ, hh, ρ, a, w, hc, h => by
    have hc' : cY ρ.n x = true ∧ cY ρ.n y = true := by
      simp only [cY] at hc
      split at hc
      · rename_i h1; exact ⟨h1, hc⟩
      · cases hc
    refine wp_seq (wp_mono (dO hE hm x _ σ hh ρ a w hc'.1 h) ?_)
    intro e a' w' hq
    cases e with
    | normal => obtain ⟨σ', h1, h2⟩ := hq; exact dO hE hm y Q σ' h1 ρ a' w' hc'.2 h2
    | exit id => exact hq
    | ret => exact hq
    | outgrown => exact hq
    | _ => exact hq
  | .cond (.tmp t) x y, Q, σ, hh, ρ, a, w, hc, h => by
    have hc' : t < ρ.n ∧ cY ρ.n x = true ∧ cY ρ.n y = true := by
      simp only [cY] at hc
      split at hc
      · rename_i h0
        split at hc
        · rename_i h1; exact ⟨by simpa [Nat.blt_eq] using h0, h1, hc⟩
        · cases hc
      · cases hc
    simp only [wpC] at hh
    split at hh
    · rename_i b hb
      obtain ⟨imm, Λ, F, hX⟩ := h
      have hn := hX.nlt
      have ht := hc'.1
      have hs := hX.slots t
      rw [hb] at hs
      unfold slotv at hs
      rw [if_pos (Nat.lt_of_lt_of_le ht hn)] at hs
      have hv : a.eval (.tmp t) = .bool b := bo hs
      refine wp_cond_split hv (fun e => ?_) (fun e => ?_)
      · subst e; exact dO hE hm x Q σ hh ρ a w hc'.2.1 ⟨imm, Λ, F, hX⟩
      · subst e; exact dO hE hm y Q σ hh ρ a w hc'.2.2 ⟨imm, Λ, F, hX⟩
    · exact hh.elim
  | .block id c, Q, σ, hh, ρ, a, w, hc, h => by
    refine wp_block (wp_mono (dO hE hm c _ σ hh ρ a w hc h) ?_)
    intro e a' w' hq
    cases e with
    | exit i =>
      obtain ⟨σ', h1, h2⟩ := hq
      simp only at h1
      simp only [Exit.inBlock]
      split
      · rename_i hi; rw [if_pos hi] at h1; exact ⟨σ', h1, h2⟩
      · rename_i hi; rw [if_neg hi] at h1; exact ⟨σ', h1, h2⟩
    | _ => exact hq
  | .exit id, Q, σ, hh, ρ, a, w, _, h => wp_exit ⟨σ, hh, h⟩
  | .ret, Q, σ, hh, ρ, a, w, _, h => wp_ret ⟨σ, hh, h⟩
  | .loop c, Q, σ, hh, ρ, a, w, hc, h => by
    simp only [wpC] at hh
    cases hg : jG c with
    | true => rw [hg] at hh; exact hh.elim
    | false => rw [hg] at hh; exact hh.1 hg ρ a w hc h
  | .cond (.const v) x y, Q, σ, hh, ρ, a, w, hc, h => by
    have hc' : cY ρ.n x = true ∧ cY ρ.n y = true := by
      simp only [cY] at hc
      split at hc
      · rename_i h1; exact ⟨h1, hc⟩
      · cases hc
    cases v with
    | bool b =>
      have hv : a.eval (.const (.bool b)) = .bool b := rfl
      refine wp_cond_split hv (fun e => ?_) (fun e => ?_)
      · subst e; exact dO hE hm x Q σ hh ρ a w hc'.1 h
      · subst e; exact dO hE hm y Q σ hh ρ a w hc'.2 h
    | _ => exact hh.elim
  | .cond (.global _) _ _, Q, σ, hh, _, _, _, _, _ => hh.elim
  | .cond (.func _) _ _, Q, σ, hh, _, _, _, _, _ => hh.elim
  | .label _, Q, σ, hh, _, _, _, _, _ => hh.elim
  | .goto _, Q, σ, hh, _, _, _, _, _ => hh.elim
  | .scope _ , Q, σ, hh, _, _, _, _, _ => hh.elim
  | .rangeFunc _ _ _ _, Q, σ, hh, _, _, _, _, _ => hh.elim
  | .refuse _, Q, σ, hh, _, _, _, _, _ => hh.elim

/-- a loop: a family of what holds when a round begins, and a number that falls -/
theorem t8 {c : Code} {Q : Exit → Act → World → Prop} {ι : Type} (I : ι → Act → World → Prop) (μ : ι → Nat) (i0 : ι) (h0 : I i0 a w)
    (round : ∀ i a w, I i a w → c.wp P (Exit.then (fun a' w' => ∃ j, I j a' w' ∧ μ j < μ i) Q) a w) : (Code.loop c).wp P Q a w := by
  intro b k cs
  have key : ∀ n i a w, μ i = n → I i a w → ∃ e a' w', Q e a' w' ∧ Arrives P (lone (b.at a (.code c :: .inLoop c :: k)) cs w) b k cs e a' w' := by
    intro n
    induction n using Nat.strongRecOn with
    | _ n ih =>
      intro i a w hn hI
      obtain ⟨e, a₁, w₁, hq, harr⟩ := round i a w hI b (.inLoop c :: k) cs
      cases e with
      | normal =>
        obtain ⟨j, hI₁, hlt⟩ := hq
        obtain ⟨e₂, a₂, w₂, hq₂, harr₂⟩ := ih (μ j) (hn ▸ hlt) j a₁ w₁ rfl hI₁
        exact ⟨e₂, a₂, w₂, hq₂, .of_steps (Steps.trans harr (.one step_inLoop)) harr₂⟩
      | exit id => exact ⟨_, a₁, w₁, hq, .pass (x := .inLoop c) rfl (fun _ _ => .inl (by simp)) harr⟩
      | goto l => exact ⟨_, a₁, w₁, hq, .pass (x := .inLoop c) rfl (fun _ _ => .inl (by simp)) harr⟩
      | ret => exact ⟨_, a₁, w₁, hq, .pass (x := .inLoop c) rfl (fun _ _ => .inl (by simp)) harr⟩
      | panic ch => exact ⟨_, a₁, w₁, hq, .pass (x := .inLoop c) rfl (fun _ _ => .inl (by simp)) harr⟩
      | outgrown => exact ⟨_, a₁, w₁, hq, .pass (x := .inLoop c) rfl (fun _ _ => .inl (by simp)) harr⟩
  obtain ⟨e, a', w', hq, harr⟩ := key _ i0 a w rfl h0
  exact ⟨e, a', w', hq, .of_steps (.one step_loop) harr⟩

/-- τ says less than σ -/
def Cov (σ τ : St) : Prop := ∀ ρ a w, Rel ρ σ a w → Rel ρ τ a w

theorem vG (hE : EOk P E) (hm : P.follows .mixedOrders = true) {c : Code} {Q : Ex → St → Prop} {ι : Type} (I : ι → St) (μ : ι → Nat) (i0 : ι) (h0 : Cov σ (I i0))
    (round : ∀ i, wpC E (fN P) c (fun e σ' => match e with | .normal => ∃ j, Cov σ' (I j) ∧ μ j < μ i | e => Q e σ') (I i)) : pV P (.loop c) Q σ := by
  intro ρ a w hc h
  refine t8 (fun i a w => Rel ρ (I i) a w) μ i0 (h0 ρ a w h) (fun i a w hI => ?_)
  refine wp_mono (dO hE hm c _ (I i) (round i) ρ a w hc hI) ?_
  intro e a' w' hq
  cases e with
  | normal =>
    obtain ⟨σ', ⟨j, h1, h2⟩, h3⟩ := hq
    exact ⟨j, h1 ρ a' w' h3, h2⟩
  | exit id => exact hq
  | ret => exact hq
  | outgrown => exact hq
  | _ => exact hq
theorem we {c : Code} {Q : Ex → St → Prop} (hmk : jG c = false) (h : pV P (.loop c) Q σ) : LWc P c Q σ := ⟨fun _ => h, fun l r e => by rw [e] at hmk; cases hmk⟩
/-- a drawn region, from a state that says less -/
theorem xG {E : TE} {C : Ctx} (hC : C = fN P) (hE : EOk P E) (hm : P.follows .mixedOrders = true) {id : Nat} {ops : Array Oper} {Q : Ex → St → Prop} (τ : St) (hcov : Cov σ τ) (h : eu E C ops.toList (Q .normal) ops.toList 0 [] τ) : C.LW (.seq (.label 0) (.region id ops true)) Q σ := by
  subst hC
  refine ⟨fun h => (by cases h), fun l r e => ?_⟩
  cases e
  intro ρ a w hc hr
  exact pr hE hm (K := Q .normal) (fun a w σ hq hr => ⟨σ, hq, hr⟩) (iM hc) h (hcov ρ a w hr)
end
end Go.Vm
/- Functions: a body that does what is said makes the contract. -/
namespace Go.Vm
section
variable {P : Program} {E : TE} {w : World} {σ : St} {Λ : Lam} {imm : Set} {F : Key → Set} {ρ : Env} {a : Act}

/-- what is known of a slot, written down -/
theorem aB.know (h : aB ρ σ a w imm Λ F) {t : Nat} {x : A} (hx : CR w imm (some Λ) x (Vm.slotv ρ a t) Set.no) : aB ρ (σ.upd1 (.s t x)) a w imm Λ F := by
  refine { h with slots := fun u => ?_ }
  show CR w imm (some Λ) (lkS ((t, x) :: σ.slots) u) _ _
  rw [cy]
  by_cases e : u = t
  · subst e; rw [if_pos rfl]; exact hx
  · rw [if_neg e]; exact h.slots u

theorem ny {k : St → Prop} : ∀ (ds : List A) (i : Nat) (us : List Value) (σ : St) (Λ : Lam) (F : Key → Set) (T : Set), aB ρ σ a w imm Λ F → ae w imm none ds us T → cg F imm (pD ρ w) T →
    (∀ j, j < us.length → us[j]? = some (slotv ρ a (i + j)) ∧ us[j]? = some (slotv ρ a (1000000 + (i + j)))) → kZ (fN P) i ds σ k → ∃ σ', k σ' ∧ Rel ρ σ' a w
  | [], i, us, σ, Λ, F, T, h, hv, hH, hs, hh => ⟨σ, hh, imm, Λ, F, h⟩
  | d :: ds, i, [], σ, Λ, F, T, h, hv, hH, hs, hh => by simp only [ae] at hv
  | d :: ds, i, u :: us, σ, Λ, F, T, h, hv, hH, hs, hh => by
    simp only [ae] at hv
    obtain ⟨T1, T2, hd, hv, h1, h2, h12⟩ := hv
    simp only [kZ] at hh
    obtain ⟨ws, as, Λ', F', r1, r2, r3, r4, r5⟩ := iP i 40 0 [d] [u] _ σ Λ F T1 _ h (ae.of_one hd) (hH.le h1) hh
    obtain ⟨c, rfl, hc⟩ := ae.single r4
    have h0 := hs 0 (by simp)
    simp only [List.getElem?_cons_zero, Option.some.injEq, Nat.add_zero] at h0
    have k1 := r2.know (t := i) (x := c) (by rw [← h0.1]; exact hc)
    have k2 := k1.know (t := 1000000 + i) (x := c) (by rw [← h0.2]; exact hc)
    have hH2 : cg F' imm (pD ρ w) T2 := ⟨fun κ b hb hb2 => by
        rcases r5 κ b hb2 with h' | h'
        · exact hH.dis κ b (h2 b hb) h'
        · exact h12 b h' hb, (hH.le h2).imm, (hH.le h2).pool⟩
    have r1' : kZ (fN P) (i + 1) ds (σ.upd (ws ++ [.s i c, .s (1000000 + i) c])) k := r1
    rw [ba] at r1'
    refine ny ds (i + 1) us _ Λ' F' T2 k2 hv hH2 (fun j hj => ?_) r1'
    have := hs (j + 1) (by simpa using hj)
    simpa [Nat.add_assoc, Nat.add_comm 1 j] using this

theorem lK (h : aB ρ σ a w imm Λ F) {K : List W → Prop} : ∀ {ts : List Nat} {f : List A → Pg}, (kD ts f).holds σ K → ∃ vs, (f vs).holds σ K ∧ ae w imm (some Λ) vs (ts.map (slotv ρ a)) Set.no
  | [], f, hh => ⟨[], hh, by simp [ae]⟩
  | t :: ts, f, hh => by
    obtain ⟨vs, h1, h2⟩ := lK h (ts := ts) hh
    exact ⟨_ :: vs, h1, by simp only [List.map_cons, ae]; exact ⟨Set.no, Set.no, h.slots t, h2, Set.le_refl _, Set.le_refl _, Set.no_dis _⟩⟩

def gG (vs : Array Value) : Value := if h : vs.size = 1 then vs[0] else .tuple vs
theorem tI {imm : Set} {x : Option Lam} {rds : List A} {vs : List Value} {S : Set} (h : ae w imm x rds vs S) : CR w imm x (gS rds) (gG vs.toArray) S := by
  match rds, vs, h with
  | [], [], h => simp only [gS, gG, CR]; exact ⟨[], by simp, by simp only [ae]⟩
  | [c], [v], h =>
    simp only [ae] at h
    obtain ⟨S1, S2, h1, _, h3, _⟩ := h
    exact h1.mono h3
  | c :: c' :: cs, v :: v' :: vs, h => simp only [gS, gG, CR]; exact ⟨v :: v' :: vs, by simp, h⟩
  | [], _ :: _, h => simp only [ae] at h
  | _ :: _, [], h => simp only [ae] at h
  | [_], _ :: _ :: _, h => simp only [ae] at h; obtain ⟨_, _, _, h, _⟩ := h; exact h.elim
  | _ :: _ :: _, [_], h => simp only [ae] at h; obtain ⟨_, _, _, h, _⟩ := h; exact h.elim

def eT (tmps : Array Value) : ResultVar → Go.Sem Value
  | .tmp t => pure (tmps.getD t undef)
  | .cell a t => do loadVar t (← asAddr (tmps.getD a undef))
theorem uc (fn : Func) (tmps : Array Value) : results fn tmps = (fn.results.mapM (eT tmps) >>= fun vs => pure (gG vs)) := by
  unfold results
  have he : (fun (x : ResultVar) => match x with
      | .tmp t => (pure (tmps.getD t undef) : Go.Sem Value)
      | .cell a t => (asAddr (tmps.getD a undef) >>= fun ad => loadVar t ad)) = eT tmps := by funext x; cases x <;> rfl
  exact congrArg (fun g => (Array.mapM g fn.results >>= fun vs => (pure (gG vs) : Go.Sem Value))) he
end
end Go.Vm
/- A state that says less: slots forgotten, nodes renamed or frozen, nothing taken for a row of the frame's own. -/
namespace Go.Vm

def dg (κ : Key) : List (Key × Key) → Option Key
  | [] => none
  | (x, y) :: l => if κ.1 = x.1 then (if κ.2 = x.2 then some y else dg κ l) else dg κ l
def isK (x : Option Key) (κ : Key) : Bool := match x with
  | some y => if y.1 = κ.1 then (if y.2 = κ.2 then true else false) else false
  | none => false
def mj (κ : Key) : List (Key × Key) → Bool
  | [] => false
  | (_, y) :: l => if isK (some y) κ then true else mj κ l
def uh : List (Key × Key) → Bool
  | [] => true
  | (_, y) :: l => if mj y l then false else uh l

def rh : Value → Bool
  | .slice none 0 0 => true
  | _ => false
theorem qu {v : Value} (h : rh v = true) : v = .slice none 0 0 := by
  unfold rh at h
  split at h
  · rfl
  · cases h
mutual
def fM (ms : List (Key × Key)) (σ τ : St) (x : A) : A → Prop
  | .hole => True
  | .ref κ' g' i' n' => match x with
    | .ref κ g i n => isK (dg κ' ms) κ = true ∧ (lkN σ.heap κ.1 κ.2).gen = g ∧ (lkN τ.heap κ'.1 κ'.2).gen = g' ∧ i' = i ∧ n' = n
    | .lit v => rh v = true ∧ dg κ' ms = none ∧ (lkN τ.heap κ'.1 κ'.2).gen = g' ∧ i' = 0 ∧ n' = 0
    | _ => False
  | .mptr κ' g' i' o' => match x with
    | .mptr κ g i o => isK (dg κ' ms) κ = true ∧ (lkN σ.heap κ.1 κ.2).gen = g ∧ (lkN τ.heap κ'.1 κ'.2).gen = g' ∧ i' = i ∧ o' = o
    | _ => False
  | .tree rows => match x with
    | .tree r => rows = r
    | .lit v => rh v = true ∧ rows = []
    | .emp => rows = []
    | _ => False
  | .agg ds => match x with
    | .agg cs => jL ms σ τ cs ds
    | _ => False
  | .tup ds => match x with
    | .tup cs => jL ms σ τ cs ds
    | _ => False
  | .clo g ds => match x with
    | .clo f cs => f = g ∧ jL ms σ τ cs ds
    | _ => False
  | .lit u => match x with
    | .lit v => u = v
    | _ => False
  | .emp => match x with
    | .emp => True
    | _ => False
  | .iptr s p => match x with
    | .iptr r o => s = r ∧ p = o
    | _ => False
  | _ => False
def jL (ms : List (Key × Key)) (σ τ : St) : List A → List A → Prop
  | [], [] => True
  | c :: cs, d :: ds => fM ms σ τ c d ∧ jL ms σ τ cs ds
  | _, _ => False
end
/-- cells where nil slices are taken for empty rows of one's own -/
inductive db : List A → List A → Prop
  | nil : db [] []
  | same (c : A) {cs ds : List A} (h : db cs ds) : db (c :: cs) (c :: ds)
  | nilc (k : Nat) {cs ds : List A} (h : db cs ds) : db (.lit (.slice none 0 0) :: cs) (.inl k [] :: ds)
inductive ic : Rows → Rows → Prop
  | same (r : Rows) : ic r r
  | rep (n : Nat) {z z' : List A} (h : db z z') : ic (List.replicate n z) (List.replicate n z')
@[simp] theorem xt (r : Rows) : ic r r := .same r
@[simp] theorem nilRows_rep (n : Nat) {z z' : List A} (h : db z z') : ic (List.replicate n z) (List.replicate n z') := .rep n h
@[simp] theorem xh : db [] [] := .nil
@[simp] theorem xf (c : A) (cs ds : List A) : db (c :: cs) (c :: ds) ↔ db cs ds := ⟨fun h => by cases h; assumption, .same c⟩
@[simp] theorem xe (k : Nat) (cs ds : List A) : db (.lit (.slice none 0 0) :: cs) (.inl k [] :: ds) ↔ db cs ds := ⟨fun h => by cases h; assumption, .nilc k⟩
theorem db.ok {w : World} {imm : Set} {b : Nat} {cs ds : List A} (h : db cs ds) : ds.length = cs.length ∧ ∀ (o : Nat) (S : Set), ag w imm none cs b o S → ag w imm none ds b o S := by
  induction h with
  | nil => exact ⟨rfl, fun _ _ h => h⟩
  | same c _ ih =>
    refine ⟨by simp [ih.1], fun o S h => ?_⟩
    simp only [ag] at h ⊢
    obtain ⟨v, S1, S2, h1, h2, h3, h4⟩ := h
    exact ⟨v, S1, S2, h1, h2, ih.2 _ _ h3, h4⟩
  | nilc k _ ih =>
    refine ⟨by simp [ih.1], fun o S h => ?_⟩
    simp only [ag] at h ⊢
    obtain ⟨v, S1, S2, h1, h2, h3, h4⟩ := h
    refine ⟨v, S1, S2, h1, ?_, ih.2 _ _ h3, h4⟩
    simp only [CR] at h2 ⊢
    subst h2
    exact ⟨none, 0, by simp, .inl ⟨rfl, rfl, trivial⟩⟩
theorem ic.ok {w : World} {imm : Set} {b : Nat} {rs rs' : Rows} (h : ic rs rs') : rs'.length = rs.length ∧ ∀ (o k : Nat) (S : Set), ap w imm none rs b o k S → ap w imm none rs' b o k S := by
  cases h with
  | same => exact ⟨rfl, fun _ _ _ h => h⟩
  | rep n h =>
    refine ⟨by simp, ?_⟩
    obtain ⟨h1, h2⟩ := h.ok (w := w) (imm := imm) (b := b)
    induction n with
    | zero => exact fun _ _ _ h => h
    | succ n ih =>
      intro o k S hr
      simp only [List.replicate_succ, ap] at hr ⊢
      obtain ⟨S1, S2, g1, g2, g3, g4⟩ := hr
      exact ⟨S1, S2, by rw [h1]; exact g1, h2 _ _ g2, ih _ _ _ g3, g4⟩
/-- cells that lead to no node -/
def kF : List A → Bool
  | [] => true
  | .lit _ :: l | .emp :: l | .tree _ :: l => kF l
  | _ => false
theorem ag.data {w : World} {imm : Set} {Λ : Lam} {b : Nat} : ∀ {cs : List A} {o : Nat} {S : Set}, kF cs = true → ag w imm (some Λ) cs b o S → ag w imm none cs b o Set.no
  | [], _, _, _, _ => by simp only [ag]
  | c :: cs, o, S, hd, h => by
    simp only [ag] at h ⊢
    obtain ⟨v, S1, S2, h1, h2, h3, _⟩ := h
    have hc : CR w imm none c v Set.no ∧ kF cs = true := by
      cases c <;> simp only [kF] at hd <;> first | (cases hd; done) | (refine ⟨?_, hd⟩; simp only [CR] at h2 ⊢; exact h2)
    exact ⟨v, Set.no, Set.no, h1, hc.1, ag.data hc.2 h3, Set.no_le _, Set.no_le _, Set.no_dis _⟩
def md (ms : List (Key × Key)) (σ τ : St) : HN → HN → Prop
  | _, .dead _ => True
  | .box _ cs, .box _ ds => jL ms σ τ cs ds
  | .arr _ k rows, .arr _ k' rows' => k' = k ∧ ic rows rows'
  | .opn _ k rows i row, .opn _ k' rows' i' row' => k' = k ∧ rows' = rows ∧ i' = i ∧ jL ms σ τ row row'
  | .fbox _ cs, .fbox _ ds => ds = cs
  | .box _ cs, .fbox _ ds => ds = cs ∧ kF cs = true
  | .farr _ k rows, .farr _ k' rows' => k' = k ∧ rows' = rows
  | .arr _ k rows, .farr _ k' rows' => k' = k ∧ rows' = aH rows
  | _, _ => False
def ui (ms : List (Key × Key)) (σ τ : St) : List (Nat × A) → Prop
  | [] => True
  | (t, b) :: l => fM ms σ τ (lkS σ.slots t) b ∧ ui ms σ τ l
def uk (ms : List (Key × Key)) (σ τ : St) : List (Key × HN) → Prop
  | [] => True
  | (κ', n) :: l => (match dg κ' ms with
      | some κ => md ms σ τ (lkN σ.heap κ.1 κ.2) n
      | none => match n with
        | .arr _ _ rows => rows = []
        | .dead _ => True
        | _ => False) ∧ uk ms σ τ l
def wI (ms : List (Key × Key)) (σ τ : St) : Prop := uh ms = true ∧ ui ms σ τ τ.slots ∧ uk ms σ τ τ.heap

theorem mT (x : Option Key) (κ : Key) : isK x κ = true ↔ x = some κ := by
  obtain ⟨a, b⟩ := κ
  cases x with
  | none => simp [isK]
  | some y =>
    obtain ⟨c, d⟩ := y
    simp [isK]
theorem jQ {κ y : Key} : ∀ {l : List (Key × Key)}, dg κ l = some y → (κ, y) ∈ l
  | (x, z) :: l, h => by
    obtain ⟨a, b⟩ := κ
    obtain ⟨c, d⟩ := x
    simp only [dg] at h
    split at h
    · rename_i h1
      split at h
      · rename_i h2
        cases h
        rw [h1, h2]
        exact List.mem_cons_self
      · exact List.mem_cons_of_mem _ (jQ h)
    · exact List.mem_cons_of_mem _ (jQ h)
theorem pw (κ : Key) : ∀ l : List (Key × Key), mj κ l = true ↔ ∃ x, (x, κ) ∈ l
  | [] => by simp [mj]
  | (x, y) :: l => by
    simp only [mj]
    by_cases h : isK (some y) κ = true
    · rw [if_pos h]
      have := (mT _ _).1 h
      cases this
      simp only [true_iff]
      exact ⟨x, List.mem_cons_self⟩
    · rw [if_neg h, pw κ l]
      have : y ≠ κ := fun e => h ((mT _ _).2 (by rw [e]))
      constructor
      · rintro ⟨z, hz⟩; exact ⟨z, List.mem_cons_of_mem _ hz⟩
      · rintro ⟨z, hz⟩
        rcases List.mem_cons.1 hz with e | hz
        · cases e; exact absurd rfl this
        · exact ⟨z, hz⟩
theorem tF {y : Key} : ∀ {l : List (Key × Key)} {x x' : Key}, uh l = true → (x, y) ∈ l → (x', y) ∈ l → x = x'
  | (z, u) :: l, x, x', hi, h, h' => by
    simp only [uh] at hi
    split at hi
    · cases hi
    · rename_i hv
      have hno : ∀ q, (q, u) ∉ l := fun q hq => hv ((pw u l).2 ⟨q, hq⟩)
      rcases List.mem_cons.1 h with e | h1
      · cases e
        rcases List.mem_cons.1 h' with e | h2
        · cases e; rfl
        · exact absurd h2 (hno x')
      · rcases List.mem_cons.1 h' with e | h2
        · cases e; exact (hno x h1).elim
        · exact tF hi h1 h2

section
variable {w : World} {σ τ : St} {ms : List (Key × Key)} {ρ : Env} {a : Act} {imm : Set} {Λ : Lam} {F : Key → Set}

/-- how the nodes are known after -/
def fk (ms : List (Key × Key)) (τ : St) (Λ : Lam) : Lam := fun κ' => match dg κ' ms, lkN τ.heap κ'.1 κ'.2 with
  | _, .dead g => ⟨g, .gone, 0, 0⟩
  | some κ, n => { Λ κ with gen := n.gen }
  | none, .arr g k _ => ⟨g, .nil, k, 0⟩
  | none, n => ⟨n.gen, .gone, 0, 0⟩
def keeps : HN → Bool
  | .dead _ | .farr _ _ _ | .fbox _ _ => false
  | _ => true
def sq (ms : List (Key × Key)) (τ : St) (F : Key → Set) : Key → Set := fun κ' => match dg κ' ms with
  | some κ => if keeps (lkN τ.heap κ'.1 κ'.2) then F κ else Set.no
  | none => Set.no
def xM (ms : List (Key × Key)) (τ : St) (F : Key → Set) (imm : Set) : Set := fun b => imm b ∨ ∃ κ' κ, dg κ' ms = some κ ∧ keeps (lkN τ.heap κ'.1 κ'.2) = false ∧ F κ b

theorem xu {imm : Set} {κ κ' : Key} {g g' i n : Nat} {u : Value} (hk : isK (dg κ' ms) κ = true) (hg : (lkN σ.heap κ.1 κ.2).gen = g) (hg' : (lkN τ.heap κ'.1 κ'.2).gen = g') (h : aB ρ σ a w imm Λ F) (hr : da (Λ κ) g i n u) : da (fk ms τ Λ κ') g' i n u := by
  have hf := (mT _ _).1 hk
  have hgen := lh h κ
  have h1 := hr.2.1 (by rw [hgen, hg])
  unfold fk
  rw [hf]
  cases hn : lkN τ.heap κ'.1 κ'.2 with
  | dead q => rw [hn] at hg'; simp only [HN.gen] at hg'; subst hg'; exact ⟨Nat.le_refl _, fun _ => trivial, hr.2.2⟩
  | _ => rw [hn] at hg'; subst hg'; exact ⟨Nat.le_refl _, fun _ => h1, hr.2.2⟩
theorem xL {imm : Set} {κ κ' : Key} {g g' i o : Nat} {u : Value} (hk : isK (dg κ' ms) κ = true) (hg : (lkN σ.heap κ.1 κ.2).gen = g) (hg' : (lkN τ.heap κ'.1 κ'.2).gen = g') (h : aB ρ σ a w imm Λ F) (hr : c8 (Λ κ) g i o u) : c8 (fk ms τ Λ κ') g' i o u := by
  have hf := (mT _ _).1 hk
  have hgen := lh h κ
  have h1 := hr.2.1 (by rw [hgen, hg])
  unfold fk
  rw [hf]
  cases hn : lkN τ.heap κ'.1 κ'.2 with
  | dead q => rw [hn] at hg'; simp only [HN.gen] at hg'; subst hg'; exact ⟨Nat.le_refl _, fun _ => trivial, hr.2.2⟩
  | _ => rw [hn] at hg'; subst hg'; exact ⟨Nat.le_refl _, fun _ => h1, hr.2.2⟩

def rj (ms : List (Key × Key)) (τ : St) : Prop := ∀ κ' : Key, dg κ' ms = none → (match lkN τ.heap κ'.1 κ'.2 with | .arr _ _ rows => rows = [] | .dead _ => True | _ => False)
mutual
theorem u5 (h : aB ρ σ a w imm Λ F) (hN : rj ms τ) {imm' : Set} (hi : Set.le imm imm') : ∀ (x y : A) (v : Value) (S : Set), fM ms σ τ x y → CR w imm (some Λ) x v S → CR w imm' (some (fk ms τ Λ)) y v S
  | x, .hole, v, S, _, _ => by simp only [CR]
  | x, .ref κ' g' i' n', v, S, hc, hx => by
    cases x <;> simp only [fM] at hc
    · rename_i u
      obtain ⟨h0, h1, h2, rfl, rfl⟩ := hc
      have := qu h0
      subst this
      have hv := bo hx
      subst hv
      simp only [CR]
      have hn := hN κ' h1
      unfold fk
      rw [h1]
      cases hq : lkN τ.heap κ'.1 κ'.2 with
      | dead q => rw [hq] at h2; simp only [HN.gen] at h2; subst h2; exact ⟨Nat.le_refl _, fun _ => trivial, _, _, _, rfl⟩
      | arr g k rows => rw [hq] at h2; simp only [HN.gen] at h2; subst h2; exact ⟨Nat.le_refl _, fun _ => ⟨rfl, rfl, rfl⟩, _, _, _, rfl⟩
      | _ => rw [hq] at hn; exact hn.elim
    · simp only [CR] at hx ⊢
      obtain ⟨h1, h2, h3, rfl, rfl⟩ := hc
      exact xu h1 h2 h3 h hx
  | x, .mptr κ' g' i' n', v, S, hc, hx => by
    cases x <;> simp only [fM] at hc
    simp only [CR] at hx ⊢
    obtain ⟨h1, h2, h3, rfl, rfl⟩ := hc
    exact xL h1 h2 h3 h hx
  | x, .tree rows, v, S, hc, hx => by
    cases x <;> simp only [fM] at hc
    · obtain ⟨h0, rfl⟩ := hc
      have := qu h0
      subst this
      have hv := bo hx
      subst hv
      simp only [CR]
      exact ⟨none, 0, rfl, Nat.le_refl _, .inl trivial⟩
    · subst hc
      simp only [CR] at hx ⊢
      obtain ⟨ad, e⟩ := hx
      exact ⟨ad, 0, e, Nat.le_refl _, .inl trivial⟩
    · subst hc
      exact CR.any _ _ _ _ _ _ (CR.stable hi (fun _ _ => rfl) none none _ _ _ _ trivial (Set.le_refl _) (fun _ _ => rfl) (show CR w imm none (.tree rows) v S by simp only [CR] at hx ⊢; exact hx))
  | x, .agg ds, v, S, hc, hx => by
    cases x <;> simp only [fM] at hc
    simp only [CR] at hx ⊢
    obtain ⟨vs, e, hx⟩ := hx
    exact ⟨vs, e, mt h hN hi _ ds vs S hc hx⟩
  | x, .tup ds, v, S, hc, hx => by
    cases x <;> simp only [fM] at hc
    simp only [CR] at hx ⊢
    obtain ⟨vs, e, hx⟩ := hx
    exact ⟨vs, e, mt h hN hi _ ds vs S hc hx⟩
  | x, .clo g ds, v, S, hc, hx => by
    cases x <;> simp only [fM] at hc
    simp only [CR] at hx ⊢
    obtain ⟨rfl, hc⟩ := hc
    obtain ⟨vs, e, hx⟩ := hx
    exact ⟨vs, e, mt h hN hi _ ds vs _ hc hx⟩
  | x, .lit u, v, S, hc, hx => by
    cases x <;> simp only [fM] at hc
    subst hc
    simp only [CR] at hx ⊢; exact hx
  | x, .emp, v, S, hc, hx => by
    cases x <;> simp only [fM] at hc
    simp only [CR] at hx ⊢; exact hx
  | x, .iptr s p, v, S, hc, hx => by
    cases x <;> simp only [fM] at hc
    obtain ⟨rfl, rfl⟩ := hc
    exact CR.any _ _ _ _ _ _ (CR.stable hi (fun _ _ => rfl) none none _ _ _ _ trivial (Set.le_refl _) (fun _ _ => rfl) (show CR w imm none (.iptr s p) v S by simp only [CR] at hx ⊢; exact hx))
  | x, .inl _ _, v, S, hc, _ => by simp only [fM] at hc
  | x, .obox _, v, S, hc, _ => by simp only [fM] at hc
  | x, .optr _ _ _, v, S, hc, _ => by simp only [fM] at hc
theorem mt (h : aB ρ σ a w imm Λ F) (hN : rj ms τ) {imm' : Set} (hi : Set.le imm imm') : ∀ (xs ys : List A) (vs : List Value) (S : Set), jL ms σ τ xs ys → ae w imm (some Λ) xs vs S → ae w imm' (some (fk ms τ Λ)) ys vs S
  | [], [], [], S, _, _ => by simp only [ae]
  | x :: xs, y :: ys, v :: vs, S, hc, hx => by
    simp only [jL] at hc
    simp only [ae] at hx ⊢
    obtain ⟨S1, S2, h1, h2, h3⟩ := hx
    exact ⟨S1, S2, u5 h hN hi x y v S1 hc.1 h1, mt h hN hi xs ys vs S2 hc.2 h2, h3⟩
  | [], _ :: _, _, _, hc, _ => by simp only [jL] at hc
  | _ :: _, [], _, _, hc, _ => by simp only [jL] at hc
  | [], [], _ :: _, _, _, hx => by simp only [ae] at hx
  | _ :: _, _ :: _, [], _, _, hx => by simp only [ae] at hx
end

theorem vk (h : aB ρ σ a w imm Λ F) (hN : rj ms τ) {imm' : Set} (hi : Set.le imm imm') {xs ys : List A} {b o : Nat} {S : Set} (hc : jL ms σ τ xs ys) (hx : ag w imm (some Λ) xs b o S) : ag w imm' (some (fk ms τ Λ)) ys b o S ∧ ys.length = xs.length := by
  obtain ⟨vs, h1, h2, h3⟩ := ag.vals _ _ _ hx
  have := mt h hN hi xs ys vs S hc h3
  exact ⟨ag.of_vals this h2, by rw [← this.length, h1]⟩

theorem xd {l : List (Nat × A)} : ui ms σ τ l → ∀ t, fM ms σ τ (lkS σ.slots t) (lkS l t) := by
  induction l with
  | nil => intro _ t; simp only [lkS, fM]
  | cons p l ih =>
    obtain ⟨u, b⟩ := p
    intro h t
    simp only [ui] at h
    rw [cy]
    by_cases e : t = u
    · subst e; rw [if_pos rfl]; exact h.1
    · rw [if_neg e]; exact ih h.2 t
theorem wW {l : List (Key × HN)} : uk ms σ τ l → ∀ κ' : Key, match dg κ' ms with
      | some κ => md ms σ τ (lkN σ.heap κ.1 κ.2) (lkN l κ'.1 κ'.2)
      | none => match lkN l κ'.1 κ'.2 with
        | .arr _ _ rows => rows = []
        | .dead _ => True
        | _ => False := by
  induction l with
  | nil =>
    intro _ κ'
    cases hf : dg κ' ms with
    | some κ => simp only [lkN]; cases lkN σ.heap κ.1 κ.2 <;> simp only [md]
    | none => simp only [lkN]
  | cons p l ih =>
    obtain ⟨u, n⟩ := p
    intro h κ'
    simp only [uk] at h
    rw [aZ]
    by_cases e : κ' = u
    · subst e; rw [if_pos rfl]; exact h.1
    · rw [if_neg e]; exact ih h.2 κ'

theorem az (ms : List (Key × Key)) (hc : wI ms σ τ) : Cov σ τ := by
  rintro ρ a w ⟨imm, Λ, F, h⟩
  obtain ⟨hinj, hS, hH⟩ := hc
  have hat := wW hH
  have hN : rj ms τ := fun κ' hk => by have := hat κ'; rw [hk] at this; exact this
  have hi : Set.le imm (xM ms τ F imm) := fun b hb => .inl hb
  have inj : ∀ {κ1 κ2 y : Key}, dg κ1 ms = some y → dg κ2 ms = some y → κ1 = κ2 := fun h1 h2 => tF hinj (jQ h1) (jQ h2)
  have hFsub : ∀ κ' b, sq ms τ F κ' b → ∃ κ, dg κ' ms = some κ ∧ keeps (lkN τ.heap κ'.1 κ'.2) = true ∧ F κ b := by
    intro κ' b hb
    cases hf : dg κ' ms with
    | none => simp only [sq, hf] at hb; exact hb.elim
    | some κ =>
      simp only [sq, hf] at hb
      cases hk : keeps (lkN τ.heap κ'.1 κ'.2) with
      | true => rw [hk] at hb; exact ⟨κ, rfl, rfl, hb⟩
      | false => rw [hk] at hb; exact hb.elim
  refine ⟨xM ms τ F imm, fk ms τ Λ, sq ms τ F, { size := h.size, nlt := h.nlt, slots := fun t => u5 h hN hi _ _ _ _ (xd hS t) (h.slots t), nodes := fun κ' => ?_, dis := fun κ1 κ2 hne b h1 h2 => ?_, fimm := fun κ' b hb hb2 => ?_, flt := fun κ' b hb => ?_, immlt := fun b hb => ?_, imm0 := Set.le_trans h.imm0 hi, keep := h.keep, grow := h.grow, os := h.os, defers := h.defers }⟩
  · have hk := hat κ'
    have hNR : ∀ κ, dg κ' ms = some κ → NR w imm Λ (Λ κ) (lkN σ.heap κ.1 κ.2) (F κ) := fun κ _ => h.nodes κ
    unfold fk sq
    cases hf : dg κ' ms with
    | none =>
      rw [hf] at hk
      simp only at hk ⊢
      cases hq : lkN τ.heap κ'.1 κ'.2 with
      | dead g => exact ⟨rfl, rfl⟩
      | arr g k rows => rw [hq] at hk; simp only at hk; subst hk; exact ⟨rfl, rfl, rfl, .inl ⟨rfl, rfl⟩⟩
      | _ => rw [hq] at hk; exact hk.elim
    | some κ =>
      rw [hf] at hk
      have hn := hNR κ hf
      simp only at hk ⊢
      have hlam : fk ms τ Λ = fk ms τ Λ := rfl
      cases hq : lkN τ.heap κ'.1 κ'.2 with
      | dead g => exact ⟨rfl, rfl⟩
      | box g ds =>
        rw [hq] at hk
        cases hs : lkN σ.heap κ.1 κ.2 <;> rw [hs] at hk hn <;> simp only [md] at hk
        obtain ⟨h1, h2, h3, b, base, size, S', h4, h5, h6, h7, h8, h9, h10⟩ := hn
        obtain ⟨q1, q2⟩ := vk h hN hi hk h10
        exact ⟨rfl, by rw [q2]; exact h2, h3, b, base, size, S', h4, by simpa [keeps] using h5, h6, by simpa [keeps] using h7, h8, by rw [q2]; exact h9, q1⟩
      | arr g k rows =>
        rw [hq] at hk
        cases hs : lkN σ.heap κ.1 κ.2 <;> rw [hs] at hk hn <;> simp only [md] at hk
        obtain ⟨rfl, hk⟩ := hk
        obtain ⟨h1, h2, h3, h4⟩ := hn
        have hlen := (hk.ok (w := w) (imm := imm) (b := 0)).1
        refine ⟨rfl, h2, by rw [hlen]; exact h3, h4.imp (fun z => ⟨z.1, List.eq_nil_of_length_eq_zero (by rw [hlen, z.2]; rfl)⟩) ?_⟩
        rintro ⟨b, base, size, S', h5, h6, h7, h8, h9, h10, h11⟩
        replace h11 := (hk.ok (w := w) (imm := imm) (b := b)).2 _ _ _ h11
        exact ⟨b, base, size, S', h5, by simpa [keeps] using h6, h7, by simpa [keeps] using h8, h9, by rw [hlen]; exact h10, ap.stable hi (fun _ _ => rfl) none none _ _ _ _ _ _ trivial (Set.le_refl _) rfl (fun _ _ => rfl) h11⟩
      | opn g k rows i row =>
        rw [hq] at hk
        cases hs : lkN σ.heap κ.1 κ.2 <;> rw [hs] at hk hn <;> simp only [md] at hk
        obtain ⟨rfl, rfl, rfl, hk⟩ := hk
        obtain ⟨h1, h2, h3, b, base, size, S1, S2, h4, h5, h6, h7, h8, h9, h10, h11, h12, h13, h14, h15, h16⟩ := hn
        obtain ⟨q1, q2⟩ := vk h hN hi hk h15
        exact ⟨rfl, h2, h3, b, base, size, S1, S2, h4, by simpa [keeps] using h5, h6, h7, by simpa [keeps] using h8, by simpa [keeps] using h9, h10, h11, h12, h13, by rw [q2]; exact h14, q1, gt.stable hi (fun _ _ => rfl) rfl (fun _ _ => rfl) h16⟩
      | fbox g ds =>
        rw [hq] at hk
        cases hs : lkN σ.heap κ.1 κ.2 <;> rw [hs] at hk hn <;> simp only [md] at hk
        · obtain ⟨rfl, hk⟩ := hk
          obtain ⟨h1, h2, h3, b, base, size, S', h4, h5, h6, h7, h8, h9, h10⟩ := hn
          exact ⟨rfl, h2, h3, b, base, size, h4, .inr ⟨κ', κ, hf, by rw [hq]; rfl, h5⟩, ag.stable hi (fun _ _ => rfl) none none _ _ _ _ _ trivial (Set.le_refl _) rfl (fun _ _ => rfl) (ag.data hk h10)⟩
        subst hk
        obtain ⟨h1, h2, h3, b, base, size, h4, h5, h6⟩ := hn
        exact ⟨rfl, h2, h3, b, base, size, h4, hi b h5, ag.stable hi (fun _ _ => rfl) none none _ _ _ _ _ trivial (Set.le_refl _) rfl (fun _ _ => rfl) h6⟩
      | farr g k rows =>
        rw [hq] at hk
        cases hs : lkN σ.heap κ.1 κ.2 <;> rw [hs] at hk hn <;> simp only [md] at hk
        · obtain ⟨rfl, rfl⟩ := hk
          obtain ⟨h1, h2, h3, h4⟩ := hn
          refine ⟨rfl, h2, by rw [fa]; exact h3, ?_⟩
          rcases h4 with ⟨h5, rfl⟩ | ⟨b, base, size, S', h5, h6, h7, h8, h9, h10, h11⟩
          · exact .inl ⟨h5, rfl⟩
          · exact .inr ⟨b, base, size, h5, .inr ⟨κ', κ, hf, by rw [hq]; rfl, h6⟩, ap.freeze hi _ _ _ _ _ h11 (fun y hy => .inr ⟨κ', κ, hf, by rw [hq]; rfl, h8 y hy⟩)⟩
        · obtain ⟨rfl, rfl⟩ := hk
          obtain ⟨h1, h2, h3, h4⟩ := hn
          refine ⟨rfl, h2, h3, h4.imp id ?_⟩
          rintro ⟨b, base, size, h5, h6, h7⟩
          exact ⟨b, base, size, h5, hi b h6, ap.stable hi (fun _ _ => rfl) none none _ _ _ _ _ _ trivial (Set.le_refl _) rfl (fun _ _ => rfl) h7⟩
  · obtain ⟨y1, f1, _, hF1⟩ := hFsub κ1 b h1
    obtain ⟨y2, f2, _, hF2⟩ := hFsub κ2 b h2
    by_cases e : y1 = y2
    · subst e; exact hne (inj f1 f2)
    · exact h.dis y1 y2 e b hF1 hF2
  · obtain ⟨y1, f1, k1, hF1⟩ := hFsub κ' b hb
    rcases hb2 with hb2 | ⟨κ2, y2, f2, k2, hF2⟩
    · exact h.fimm y1 b hF1 hb2
    · by_cases e : y1 = y2
      · subst e
        have := inj f1 f2
        subst this
        rw [k1] at k2; cases k2
      · exact h.dis y1 y2 e b hF1 hF2
  · obtain ⟨y1, _, _, hF1⟩ := hFsub κ' b hb
    exact h.flt y1 b hF1
  · rcases hb with hb | ⟨κ2, y2, _, _, hF2⟩
    · exact h.immlt b hb
    · exact ⟨(h.flt y2 b hF2).1, .inr (h.flt y2 b hF2).2⟩
end
end Go.Vm
/- Type tables, checked by computation. -/
namespace Go.Vm

inductive Tr (α : Type) where
  | leaf
  | node (l : Tr α) (k : Nat) (v : α) (r : Tr α)
def Tr.get {α : Type} (d : α) : Tr α → Nat → α
  | .leaf, _ => d
  | .node l k v r, x => if Nat.beq x k then v else if Nat.blt x k then l.get d x else r.get d x
def Tr.all {α : Type} (p : Nat → α → Bool) : Tr α → Bool
  | .leaf => true
  | .node l k v r => if l.all p then (if p k v then r.all p else false) else false

def uE : TypeDesc → TD → Bool
  | .int k, .int k' => k == k'
  | .bool, .bool => true
  | .string, .str => true
  | .slice e, .slice e' => e == e'
  | .pointer e, .ptr e' => e == e'
  | .struct fields, .struct fs => fields.toList.map (fun f => (f.offset, f.type)) == fs
  | .func _ _ _, .other => true
  | _, _ => false
/-- a zero cell -/
inductive Z where
  | int (k : IntKind) | bool | str | slice | ptr | func
def Z.val : Z → Value
  | .int k => .int k 0
  | .bool => .bool false
  | .str => .string ⟨#[]⟩
  | .slice => .slice none 0 0
  | .ptr => .pointer none
  | .func => .nilFunc
def Z.is : Z → Value → Bool
  | .int k, .int k' n => k == k' && n == 0
  | .bool, .bool b => !b
  | .str, .string s => s.data.size == 0
  | .slice, .slice none 0 0 => true
  | .ptr, .pointer none => true
  | .func, .nilFunc => true
  | _, _ => false
theorem Z.is_eq {z : Z} {v : Value} (h : z.is v = true) : v = z.val := by
  unfold Z.is at h
  split at h
  · simp only [Bool.and_eq_true, beq_iff_eq] at h; obtain ⟨rfl, rfl⟩ := h; rfl
  · rename_i b; cases b <;> simp at h; rfl
  · rename_i s
    obtain ⟨d⟩ := s
    have : d = #[] := Array.eq_empty_of_size_eq_zero (by simpa using h)
    subst this; rfl
  · rfl
  · rfl
  · rfl
  · cases h
def zsB : List Z → List Value → Bool
  | [], [] => true
  | z :: zs, v :: vs => if z.is v then zsB zs vs else false
  | _, _ => false
theorem vD : ∀ {zs : List Z} {vs : List Value}, zsB zs vs = true → vs = zs.map Z.val
  | [], [], _ => rfl
  | z :: zs, v :: vs, h => by
    simp only [zsB] at h
    split at h
    · rename_i h1; rw [Z.is_eq h1, vD h]; rfl
    · cases h
  | [], _ :: _, h => by cases h
  | _ :: _, [], h => by cases h

structure TZ where
  td : TD
  size : Nat
  bytes : Nat
  zs : List Z
  flat : Bool
def TZ.info (x : TZ) : TI := ⟨x.td, x.size, x.bytes, x.zs.map fun z => .lit z.val, x.flat⟩
def sb (P : Program) (t : Nat) : Bool := !P.stoodInHeld t && !P.eqGuardType P.depth t && match P.underlying t with
  | some (.struct fs) => match fs.toList with
    | [f0, f1, f2] => f0.offset == 0 && f1.offset == 1 && f2.offset == 2 && f0.name != "_" && f1.name != "_" && f2.name != "_" && (match P.underlying f0.type, P.underlying f1.type, P.underlying f2.type with
      | some (.int _), some (.int _), some (.int _) => true
      | _, _, _ => false)
    | _ => false
  | _ => false
theorem vY {P : Program} {t : Nat} (h : sb P t = true) : pv P t := by
  unfold sb at h
  simp only [Bool.and_eq_true, Bool.not_eq_true'] at h
  obtain ⟨⟨h1, h2⟩, h3⟩ := h
  split at h3
  · rename_i fs hu
    split at h3
    · rename_i f0 f1 f2 hfs
      simp only [Bool.and_eq_true, beq_iff_eq, bne_iff_ne, ne_eq] at h3
      obtain ⟨⟨⟨⟨⟨⟨a0, a1⟩, a2⟩, n0⟩, n1⟩, n2⟩, h3⟩ := h3
      split at h3
      · rename_i k0 k1 k2 e0 e1 e2
        have : fs = #[f0, f1, f2] := Array.ext' (by simpa using hfs)
        exact ⟨h1, h2, f0, f1, f2, k0, k1, k2, this ▸ hu, a0, a1, a2, n0, n1, n2, e0, e1, e2⟩
      · cases h3
    · cases h3
  · cases h3
def tY (P : Program) (t : Nat) (x : TZ) : Bool := match P.info? t, P.underlying t with
  | some i, some d => match i.zero with
    | some z => i.size == x.size && i.bytes == x.bytes && uE d x.td && zsB x.zs z.cells.toList && x.zs.length == x.size && (!x.flat || sb P t)
    | none => false
  | _, _ => false
theorem vI {d : TypeDesc} {td : TD} (h : uE d td = true) : cM d td := by
  unfold uE at h
  split at h <;> first | (cases h; done) | (simp only [cM]; exact beq_iff_eq.1 h) | (simp only [cM]; done)
theorem tP {P : Program} {t : Nat} {x : TZ} (h : tY P t x = true) : TOk P t x.info ∧ pq P t x.info := by
  unfold tY at h
  split at h
  · rename_i i d hi hd
    split at h
    · rename_i z hz
      simp only [Bool.and_eq_true, beq_iff_eq] at h
      obtain ⟨⟨⟨⟨⟨h1, h2⟩, h3⟩, h4⟩, h5⟩, h6⟩ := h
      refine ⟨⟨i, d, z, hi, h1, h2, hd, vI h3, hz, ?_, ?_⟩, fun hf => ?_⟩
      · rw [vD h4]; simp [TZ.info]
      · simpa [TZ.info] using h5
      · have hf' : x.flat = true := hf
        rw [hf'] at h6
        exact vY (by simpa using h6)
    · cases h
  · cases h

theorem Tr.get_ok {α : Type} {d : α} {p : Nat → α → Bool} {Q : Nat → α → Prop} (hp : ∀ k v, p k v = true → Q k v) (hd : ∀ t, Q t d) : ∀ {T : Tr α}, T.all p = true → ∀ t, Q t (T.get d t)
  | .leaf, _, t => hd t
  | .node l k v r, h, t => by
    simp only [Tr.all] at h
    split at h
    · rename_i hl
      split at h
      · rename_i hk
        simp only [Tr.get]
        split
        · rename_i he
          rw [Nat.eq_of_beq_eq_true he]
          exact hp k v hk
        · split
          · exact Tr.get_ok hp hd hl t
          · exact Tr.get_ok hp hd h t
      · cases h
    · cases h

def TZ.none : TZ := ⟨.other, 0, 0, [], false⟩
theorem xD {P : Program} {T : Tr TZ} {sig : Nat → List Mode} {gap inl ro : List Nat} (h : T.all (tY P) = true) : EOk P ⟨fun t => (T.get TZ.none t).info, sig, gap, inl, ro⟩ := by
  have none_ok : ∀ t, ((TZ.none.info.size ≠ 0 ∨ eP TZ.none.info.td = false) → TOk P t TZ.none.info) ∧ pq P t TZ.none.info := by
    refine fun t => ⟨fun h => ?_, fun h => ?_⟩
    · rcases h with h | h
      · exact absurd rfl h
      · cases h
    · cases h
  have := fun t => Tr.get_ok (p := tY P) (Q := fun t x => ((x.info.size ≠ 0 ∨ eP x.info.td = false) → TOk P t x.info) ∧ pq P t x.info) (d := TZ.none) (fun k v hk => ⟨fun _ => (tP hk).1, (tP hk).2⟩) none_ok h t
  exact ⟨fun t ht => (this t).1 ht, fun t => (this t).2⟩

theorem wU {n : Int} (h : -9223372036854775808 ≤ n ∧ n < 9223372036854775808) : IntKind.i64.wrap n = n := by
  rw [IntKind.wrap_i64]; omega

theorem qD {fn : Func} {c : Code} (h : fn.body.isNone = false) (hc : fn.body.getD .skip = c) : fn.body = some c := by
  cases hb : fn.body with
  | none => rw [hb] at h; cases h
  | some x => rw [hb] at hc; exact congrArg some hc
end Go.Vm
