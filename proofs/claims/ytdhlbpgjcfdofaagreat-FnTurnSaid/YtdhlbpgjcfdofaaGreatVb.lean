/- A small evaluator over the code of a program, and that it is sound, second part. -/
import Derived.Test.YtdhlbpgjcfdofaaGreatVa
import Derived.Room.AppendAny
import Derived.Orders
import Derived.Tactics
import Derived.ChangeArms
import Derived.SizedLaws
/- Appends. -/
namespace Go.Vm
section
variable {P : Program} {E : TE} {Fn : FuncId → List A → List A → A → Prop} {LW : Code → (Ex → St → Prop) → St → Prop} {ρ : Env} {σ : St} {K : List W → Prop} {o : Oper} {a : Act} {w : World} {Q : Exit → Act → World → Prop} {imm : Set} {Λ : Lam} {F : Key → Set}

/-- what is appended: its cells, read or taken -/
structure SrcV (P : Program) (w : World) (imm : Set) (F : Key → Set) (k : Nat) (y : A) (v : Value) (n : Nat) (rows : Rows) (us : List Value) (T : Set) (ks : List Key) : Prop where
  val : ∃ ad c, v = .slice ad n c ∧ (n = 0 ∨ ∃ b p, ad = some ⟨b, p, none⟩ ∧ Room.holdsV w ⟨b, p, none⟩ (n * k) = true ∧ (imm b ∨ ∃ κ' g i m, y = .ref κ' g i m ∧ F κ' b))
  cells : ∀ w' : World, w'.heap = w.heap → (Builtin.firstCells k n v).run P w' = .ok us.toArray w'
  vals : ValsR w imm none rows.flatten us T
  wide : ∀ q ∈ rows, q.length = k
  len : rows.length = n
  one : ∀ u ∈ us, (∀ c, u ≠ .agg c) ∧ (∀ c, u ≠ .tuple c)
  sub : ∀ b, T b → ∃ x ∈ ks, F x b
  keys : ∀ x ∈ ks, ∃ g i m, y = .ref x g i m

theorem oneCell_of {v : Value} (h : (∀ c, v ≠ .agg c) ∧ (∀ c, v ≠ .tuple c)) : v.oneCell' = true := by
  cases v <;> first | rfl | exact absurd rfl (h.1 _) | exact absurd rfl (h.2 _)

theorem src_none {k : Nat} {y : A} {ad : Option Addr} {c : Nat} : SrcV P w imm F k y (.slice ad 0 c) 0 [] [] Set.no [] where
  val := ⟨ad, c, rfl, .inl rfl⟩
  cells w' _ := by
    cases ad with
    | none => simp [Builtin.firstCells]
    | some b => simp [Builtin.firstCells, loadCells, loadCellsFrom]
  vals := by simp [ValsR]
  wide := by simp
  len := rfl
  one := by simp
  sub _ z := z.elim
  keys := by simp

theorem src_rows {k : Nat} {y : A} {b p n c : Nat} {rows : Rows} {S T : Set} {ks : List Key} (hk : k ≠ 0) (hr : RowsR w imm none rows b p k S) (hn : rows.length = n) (hones : ∀ r ∈ rows, ∀ c ∈ r, ocell c = true)
    (hplain : (∀ r ∈ rows, ∀ c ∈ r, plain c = true) ∨ Set.le S T) (hb : imm b ∨ ∃ κ' g i m, y = .ref κ' g i m ∧ F κ' b) (hT : ∀ b, T b → ∃ x ∈ ks, F x b) (hks : ∀ x ∈ ks, ∃ g i m, y = .ref x g i m) :
    ∃ us, SrcV P w imm F k y (.slice (some ⟨b, p, none⟩) n c) n rows us T ks := by
  obtain ⟨hc, hwide⟩ := hr.cells
  obtain ⟨us, hl, hcell, hv⟩ := CellsR.vals _ _ _ hc
  have hlen : us.length = n * k := by rw [hl, flatten_len hwide, hn]
  have hall : rows.flatten.all ocell = true := by
    rw [List.all_eq_true]
    intro x hx
    obtain ⟨r, hr, hx⟩ := List.mem_flatten.1 hx
    exact hones r hr x hx
  refine ⟨us, ⟨⟨_, c, rfl, ?_⟩, ?_, ?_, hwide, hn, ValsR.one hall hv, hT, hks⟩⟩
  · rcases Nat.eq_zero_or_pos n with h0 | h0
    · exact .inl h0
    · refine .inr ⟨b, p, rfl, ?_, hb⟩
      have hpos : 0 < n * k := Nat.mul_pos h0 (Nat.pos_of_ne_zero hk)
      have hlast := hcell (n * k - 1) (by omega)
      have hsome : ∃ u, us[n * k - 1]? = some u := ⟨us[n * k - 1], by simp [show n * k - 1 < us.length by omega]⟩
      obtain ⟨u, hu⟩ := hsome
      rw [hu] at hlast
      unfold Room.holdsV World.shape?
      unfold World.cell? at hlast
      simp only at hlast ⊢
      cases hh : w.heap[b]? with
      | none => rw [hh] at hlast; simp at hlast
      | some ob =>
        rw [hh] at hlast
        cases ob with
        | cells cs e fr =>
          simp only at hlast ⊢
          have : p + (n * k - 1) < cs.size := by
            rcases Nat.lt_or_ge (p + (n * k - 1)) cs.size with h | h
            · exact h
            · rw [Array.getElem?_eq_none h] at hlast; cases hlast
          simp; omega
        | _ => simp at hlast
  · intro w' hw'
    have hrun := run_loadCellsFrom (P := P) b p w' us 0 #[] (fun j hj => by rw [show p + 0 + j = p + j by omega, cell?_same (w := w) (w' := w') (by rw [hw'])]; exact hcell j hj)
    simp only [Builtin.firstCells, loadCells]
    rw [← hlen]
    simpa using hrun
  · rcases hplain with hp | hS
    · refine (ValsR.plain ?_ hv).mono (Set.no_le _)
      rw [List.all_eq_true]
      intro x hx
      obtain ⟨r, hr, hx⟩ := List.mem_flatten.1 hx
      exact hp r hr x hx
    · exact hv.mono hS

theorem src_sound (h : RelX ρ σ a w imm Λ F) {k : Nat} (hk : k ≠ 0) {y : A} {v : Value} (hy : CR w imm (some Λ) y v Set.no) {f : Rows → Pg} (hh : (srcPg (canon Fn LW) k y f).holds σ K) :
    ∃ n rows us, (f rows).holds σ K ∧ SrcV P w imm F k y v n rows us Set.no [] := by
  unfold srcPg at hh
  split at hh
  · have := CR_lit hy; subst this
    exact ⟨0, [], [], hh, src_none⟩
  · simp only [CR] at hy
    obtain ⟨ad, rfl⟩ := hy
    exact ⟨0, [], [], hh, src_none⟩
  · rename_i rows
    obtain ⟨⟨hw, hones⟩, hh⟩ := hh
    simp only [CR] at hy
    obtain ⟨ad, cap, rfl, hcap, hrows⟩ := hy
    rcases hrows with rfl | ⟨b, p, k', rfl, hb, hR⟩
    · exact ⟨0, [], [], hh, src_none⟩
    · have hR' : RowsR w imm none rows b p k Set.no := by
        cases rows with
        | nil => simp only [RowsR]
        | cons r rows =>
          have h1 := hw r (by simp)
          have h2 := hR
          simp only [RowsR] at h2
          obtain ⟨_, _, h2, _⟩ := h2
          rw [← h1, h2]; exact hR
      obtain ⟨us, hs⟩ := src_rows (P := P) (F := F) (y := .tree rows) (n := rows.length) (c := cap) (T := Set.no) (ks := []) hk hR' rfl hones (.inr (Set.le_refl _)) (.inl hb) (fun _ z => z.elim) (by simp)
      exact ⟨_, rows, us, hh, hs⟩
  · rename_i κ g i n
    replace hh := h.node hh
    obtain ⟨nd, hnd, hN, hh⟩ := hh
    simp only [CR] at hy
    have key : ∀ {rows : Rows} {b base : Nat} {S : Set}, (∀ b' base' size', (Λ κ).loc = .at_ b' base' size' → b' = b ∧ base' = base) → (Λ κ).k = k → (Λ κ).gen = g → (Λ κ).loc ≠ .gone → i + n ≤ rows.length → (∀ r ∈ rows, ∀ c ∈ r, ocell c = true) →
        (imm b ∨ F κ b) → ((∀ r ∈ rows, ∀ c ∈ r, plain c = true) ∨ Set.le S Set.no) → RowsR w imm none rows b base k S → ∃ us, SrcV P w imm F k (.ref κ g i n) v n ((rows.drop i).take n) us Set.no [] := by
      intro rows b base S hloc hkk hg hgone hin hones hb hplain hR
      rcases Nat.eq_zero_or_pos n with h0 | h0
      · obtain ⟨ad, cap, e1, _⟩ := RefR.len hy hg hgone
        subst h0
        rw [e1, List.take_zero]
        exact ⟨[], src_none⟩
      · obtain ⟨b', base', size', cap, e1, g1, g2, g3, e2⟩ := RefR.at hy hg hgone h0
        obtain ⟨rfl, rfl⟩ := hloc _ _ _ e1
        rw [e2, hkk]
        refine src_rows hk (RowsR.take _ _ _ _ (RowsR.drop i _ _ hR)) (by simp; omega) (fun r hr => hones r (List.mem_of_mem_drop (List.mem_of_mem_take hr))) (hplain.imp (fun hp r hr => hp r (List.mem_of_mem_drop (List.mem_of_mem_take hr))) id) (hb.imp id (fun hF => ⟨κ, g, i, n, rfl, hF⟩)) (fun _ z => z.elim) (by simp)
    cases nd <;> simp only [Pg.holds] at hh <;> (try exact hh.elim)
    · rename_i g' k' rows
      split at hh
      · rename_i hc
        obtain ⟨rfl, rfl⟩ := hc
        obtain ⟨⟨hin, hflat, hones⟩, hh⟩ := hh
        replace hin : i + n ≤ rows.length := hin
        obtain ⟨h1, h2, h3, h4⟩ := hN
        have : ∃ us, SrcV P w imm F k' (.ref κ g i n) v n ((rows.drop i).take n) us Set.no [] := by
          rcases h4 with ⟨e, rfl⟩ | ⟨b, base, size, S', e, g1, g2, g3, g4, g5, g6⟩
          · obtain ⟨ad, cap, e1, _⟩ := RefR.len hy h1 (by rw [e]; simp)
            obtain rfl : n = 0 := by simp at hin; omega
            rw [e1, List.take_zero]
            exact ⟨[], src_none⟩
          · exact key (b := b) (base := base) (fun b' base' size' e' => by rw [e] at e'; cases e'; exact ⟨rfl, rfl⟩) h2 h1 (by rw [e]; simp) hin hones (.inr g1) (.inl hflat) g6
        obtain ⟨us, hs⟩ := this
        exact ⟨n, _, us, hh, hs⟩
      · exact hh.elim
    · rename_i g' k' rows
      split at hh
      · rename_i hc
        obtain ⟨rfl, rfl⟩ := hc
        obtain ⟨⟨hin, hones⟩, hh⟩ := hh
        replace hin : i + n ≤ rows.length := hin
        obtain ⟨h1, h2, h3, h4⟩ := hN
        have : ∃ us, SrcV P w imm F k' (.ref κ g i n) v n ((rows.drop i).take n) us Set.no [] := by
          rcases h4 with ⟨e, rfl⟩ | ⟨b, base, size, e, g1, g6⟩
          · obtain ⟨ad, cap, e1, _⟩ := RefR.len hy h1 (by rw [e]; simp)
            obtain rfl : n = 0 := by simp at hin; omega
            rw [e1, List.take_zero]
            exact ⟨[], src_none⟩
          · exact key (b := b) (base := base) (fun b' base' size' e' => by rw [e] at e'; cases e'; exact ⟨rfl, rfl⟩) h2 h1 (by rw [e]; simp) hin hones (.inl g1) (.inr (Set.le_refl _)) g6
        obtain ⟨us, hs⟩ := this
        exact ⟨n, _, us, hh, hs⟩
      · exact hh.elim
  · exact hh.elim

theorem take_sound (h : RelX ρ σ a w imm Λ F) {k t : Nat} (hk : k ≠ 0) {y : A} {v : Value} (hy : CR w imm (some Λ) y v Set.no) {f : List W → Rows → Pg} (hh : (takePg (canon Fn LW) k t y f).holds σ K) :
    ∃ n rows us ws ks T, (f ws rows).holds σ K ∧ Kills Λ ks ws ∧ SrcV P w imm F k y v n rows us T ks := by
  have plainly : (srcPg (canon Fn LW) k y (f [])).holds σ K → ∃ n rows us ws ks T, (f ws rows).holds σ K ∧ Kills Λ ks ws ∧ SrcV P w imm F k y v n rows us T ks := fun hh => by
    obtain ⟨n, rows, us, h1, h2⟩ := src_sound (P := P) h hk hy hh
    exact ⟨n, rows, us, [], [], _, h1, Kills.nil Λ, h2⟩
  unfold takePg at hh
  split at hh
  · rename_i κ g i n
    split at hh
    · have hh' := h.node hh
      obtain ⟨nd, hnd, hN, hh2⟩ := hh'
      cases nd with
      | arr g' k' rows =>
        simp only at hh2
        split at hh2
        · rename_i hc
          obtain ⟨rfl, rfl, rfl⟩ := hc
          obtain ⟨⟨hn, hones⟩, hh2⟩ := hh2
          simp only [CR] at hy
          obtain ⟨h1, h2, h3, h4⟩ := hN
          have hkill : Kills Λ [κ] [.n κ (.dead g)] := by
            have := (Kills.nil Λ).cons κ
            rw [h1] at this; exact this
          have : ∃ us, SrcV P w imm F k' (.ref κ g 0 n) v n rows us (F κ) [κ] := by
            rcases h4 with ⟨e, rfl⟩ | ⟨b, base, size, S', e, g1, g2, g3, g4, g5, g6⟩
            · obtain ⟨ad, cap, e1, _⟩ := RefR.len hy h1 (by rw [e]; simp)
              obtain rfl : n = 0 := hn
              rw [e1]
              have s0 := src_none (P := P) (w := w) (imm := imm) (F := F) (k := k') (y := .ref κ g 0 0) (ad := ad) (c := cap)
              exact ⟨[], { s0 with vals := by simp [ValsR], sub := fun b hb => ⟨κ, by simp, hb⟩, keys := fun x hx => by simp at hx; exact ⟨g, 0, 0, by rw [hx]⟩ }⟩
            · have hsub : ∀ b, F κ b → ∃ x ∈ [κ], F x b := fun b hb => ⟨κ, by simp, hb⟩
              have hkeys : ∀ x ∈ [κ], ∃ g' i m, A.ref κ g 0 n = .ref x g' i m := fun x hx => by simp at hx; exact ⟨g, 0, n, by rw [hx]⟩
              rcases Nat.eq_zero_or_pos n with h0 | h0
              · obtain ⟨ad, cap, e1, _⟩ := RefR.len hy h1 (by rw [e]; simp)
                subst h0
                obtain rfl : rows = [] := List.eq_nil_of_length_eq_zero hn.symm
                rw [e1]
                have s0 := src_none (P := P) (w := w) (imm := imm) (F := F) (k := k') (y := .ref κ g 0 0) (ad := ad) (c := cap)
                exact ⟨[], { s0 with vals := by simp [ValsR], sub := hsub, keys := hkeys }⟩
              · obtain ⟨b', base', size', cap, e1, q1, q2, q3, e2⟩ := RefR.at hy h1 (by rw [e]; simp) h0
                rw [e] at e1
                cases e1
                rw [e2]
                exact src_rows (F := F) hk (by simpa using g6) hn.symm hones (.inr g3) (.inr ⟨κ, g, 0, n, rfl, g1⟩) hsub hkeys
          obtain ⟨us, hs⟩ := this
          exact ⟨n, rows, us, _, _, _, hh2, hkill, hs⟩
        · exact hh2.elim
      | _ => exact plainly hh2
    · exact plainly hh
  · exact plainly hh

/-- what is appended to: nothing, or a row of the frame's own -/
structure OldV (P : Program) (w : World) (imm : Set) (F : Key → Set) (k : Nat) (base : Option Addr) (n cap : Nat) (rows : Rows) (us : List Value) (T : Set) (ks : List Key) : Prop where
  cells : ∀ w' : World, w'.heap = w.heap → (Builtin.firstCells k n (.slice base n cap)).run P w' = .ok us.toArray w'
  vals : ValsR w imm none rows.flatten us T
  wide : ∀ q ∈ rows, q.length = k
  len : rows.length = n
  lies : (base = none ∧ n = 0 ∧ cap = 0 ∧ rows = []) ∨ ∃ b p size κ, base = some ⟨b, p, none⟩ ∧ κ ∈ ks ∧ F κ b ∧ Own w b size ∧ p + cap * k ≤ size ∧ p ≤ size ∧ ¬ T b ∧ RowsR w imm none rows b p k T ∧ n ≤ cap
  sub : ∀ b, T b → ∃ x ∈ ks, F x b

theorem RelX.draw (h : RelX ρ σ a w imm Λ F) : RelX ρ σ a w.drew imm Λ F :=
  h.step (σ' := σ) (w' := w.drew) (fun _ => rfl) (Set.le_refl _) (fun _ _ => rfl) (Nat.le_refl _) (fun _ _ _ => rfl) (LamLe.refl Λ)
    (fun κ => (h.nodes κ).stable (w := w) (w' := w.drew) (Set.le_refl _) (fun _ _ => rfl) (fun _ _ => rfl) (LamLe.refl Λ)) h.dis h.fimm (fun κ _ hb => .inl ⟨κ, hb⟩) (fun _ hb => .inl hb) ⟨rfl, rfl, rfl, SizesKept.same fun _ _ => rfl⟩

/-- a node made of what others owned, memory changed in their blocks alone -/
theorem RelX.onto (h : RelX ρ σ a w imm Λ F) {ks : List Key} {ws : List W} (hk : Kills Λ ks ws) {κ0 : Key} {g k : Nat} {rows : Rows} {i' : KI} {w' : World} {S : Set} (hS : ∀ b, S b → ∃ x ∈ ks, F x b) (hg : i'.gen = (lkN σ.heap κ0.1 κ0.2).gen + 1)
    (hheap : ∀ b, (¬ ∃ x ∈ ks, F x b) → w'.heap[b]? = w.heap[b]?) (hsz : w'.heap.size = w.heap.size) (hos : w'.os = w.os ∧ w'.output = w.output ∧ w'.tape = w.tape ∧ SizesKept w w') (hN : ∀ Λ', NR w' imm Λ' i' (.arr g k rows) S) :
    ∃ Λ' F', RelX ρ ((σ.upd ws).upd1 (.n κ0 (.arr g k rows))) a w' imm Λ' F' ∧ Λ' κ0 = i' := by
  obtain ⟨hk1, hk2⟩ := hk σ
  have hle : LamLe Λ (up (killL Λ ks) κ0 i') := by
    intro x
    by_cases ex : x = κ0
    · subst ex; rw [up_same]; have := genOf h x; exact ⟨by omega, fun e => by omega⟩
    · rw [up_ne _ _ ex]; exact killL_le Λ ks x
  have himm : ∀ b, imm b → w'.heap[b]? = w.heap[b]? := fun b hb => hheap b (fun ⟨x, _, hF⟩ => h.fimm x b hF hb)
  refine ⟨up (killL Λ ks) κ0 i', up (killF F ks) κ0 S, h.step hk1 (Set.le_refl _) himm (by omega) (fun b _ hno => hheap b (fun ⟨x, _, hF⟩ => hno ⟨x, hF⟩)) hle ?_ ?_ ?_ ?_ (fun b hb => .inl hb) hos, up_same _ _ _⟩
  · intro x
    show NR _ _ _ _ (lkN ((κ0, HN.arr g k rows) :: (σ.upd ws).heap) x.1 x.2) _
    rw [lkN_cons]
    by_cases ex : x = κ0
    · subst ex; rw [if_pos rfl, up_same, up_same]; exact hN _
    · rw [if_neg ex, up_ne _ _ ex, up_ne _ _ ex, hk2 x]
      by_cases hx : x ∈ ks
      · rw [if_pos hx]
        simp only [killL, if_pos hx]
        exact ⟨rfl, rfl⟩
      · rw [if_neg hx]
        have e1 : killF F ks x = F x := by simp [killF, hx]
        have e2 : killL Λ ks x = Λ x := by simp [killL, hx]
        rw [e1, e2]
        exact (h.nodes x).stable (Set.le_refl _) himm (fun b hb => hheap b (fun ⟨y, hy, hF⟩ => h.dis x y (fun e => hx (e ▸ hy)) b hb hF)) hle
  · intro x y hxy b hx hy
    have sub : ∀ z, killF F ks z b → F z b ∧ z ∉ ks := fun z hz => by
      simp only [killF] at hz
      split at hz
      · exact hz.elim
      · rename_i hn; exact ⟨hz, hn⟩
    by_cases ex : x = κ0
    · subst ex
      rw [up_same] at hx
      rw [up_ne _ _ (Ne.symm hxy)] at hy
      obtain ⟨z, hz, hF⟩ := hS b hx
      exact h.dis z y (fun e => (sub y hy).2 (e ▸ hz)) b hF (sub y hy).1
    · rw [up_ne _ _ ex] at hx
      by_cases ey : y = κ0
      · subst ey
        rw [up_same] at hy
        obtain ⟨z, hz, hF⟩ := hS b hy
        exact h.dis z x (fun e => (sub x hx).2 (e ▸ hz)) b hF (sub x hx).1
      · rw [up_ne _ _ ey] at hy; exact h.dis x y hxy b (sub x hx).1 (sub y hy).1
  · intro x b hx hb
    by_cases ex : x = κ0
    · subst ex
      rw [up_same] at hx
      obtain ⟨z, _, hF⟩ := hS b hx
      exact h.fimm z b hF hb
    · rw [up_ne _ _ ex] at hx; exact h.fimm x b (killF_le F ks x b hx) hb
  · intro x b hx
    by_cases ex : x = κ0
    · subst ex
      rw [up_same] at hx
      obtain ⟨z, _, hF⟩ := hS b hx
      exact .inl ⟨z, hF⟩
    · rw [up_ne _ _ ex] at hx; exact .inl ⟨x, killF_le F ks x b hx⟩

theorem ValsR.join {x : Option Lam} : ∀ {cs ds : List A} {vs us : List Value} {T1 T2 T : Set}, ValsR w imm x cs vs T1 → ValsR w imm x ds us T2 → Set.le T1 T → Set.le T2 T → Set.dis T1 T2 → ValsR w imm x (cs ++ ds) (vs ++ us) T
  | [], ds, [], us, T1, T2, T, _, h2, _, l2, _ => by simpa using h2.mono l2
  | [], ds, _ :: _, us, T1, T2, T, h1, _, _, _, _ => by simp only [ValsR] at h1
  | c :: cs, ds, [], us, T1, T2, T, h1, _, _, _, _ => by simp only [ValsR] at h1
  | c :: cs, ds, v :: vs, us, T1, T2, T, h1, h2, l1, l2, hd => by
    simp only [ValsR] at h1
    obtain ⟨U1, U2, g1, g2, g3, g4, g5⟩ := h1
    simp only [List.cons_append, ValsR]
    exact ⟨U1, fun b => U2 b ∨ T2 b, g1, ValsR.join g2 h2 (fun _ z => .inl z) (fun _ z => .inr z) (fun b hb hb2 => hd b (g4 b hb) hb2), Set.le_trans g3 l1, fun b hb => hb.elim (fun z => l1 b (g4 b z)) (l2 b), fun b hb hz => hz.elim (g5 b hb) (hd b (g3 b hb))⟩

theorem growBy_le {need : Nat} (h : 256 < need) : ∀ (r c : Nat), c ≤ 2 * need → Builtin.growBy need r c ≤ 2 * need
  | 0, c, hc => hc
  | r + 1, c, hc => by
    simp only [Builtin.growBy]
    split
    · exact hc
    · exact growBy_le h r _ (by omega)
theorem nextslicecap_le {need old : Nat} (h : old < need) : Builtin.nextslicecap need old ≤ 2 * need := by
  unfold Builtin.nextslicecap
  split
  · omega
  · split
    · omega
    · exact growBy_le (by omega) 4 old (by omega)

theorem append_core (h : RelX ρ σ a w imm Λ F) (hd : ∀ t, o.dst = some t → t < ρ.n) {x y : Operand} {t s e e' : TypeId} (ho : o.op = .call { callee := .builtin .append, args := #[x, y], argTypes := #[t, s] })
    (et : P.underlying t = some (.slice e)) (es : P.underlying s = some (.slice e')) {i : TypeInfo} {z : Value} (hi : P.info? e = some i) (hz : i.zero = some z) {k : Nat} (hik : i.size = k) (_hk0 : k ≠ 0) (hby : i.bytes ≠ 0) (hzs : z.cells.size = k)
    {base : Option Addr} {n cap n2 : Nat} (hx : a.eval x = .slice base n cap) {rows1 rows2 : Rows} {us1 us2 : List Value} {T1 T2 : Set} {ks1 ks2 : List Key} {ws1 ws2 : List W} {y' : A}
    (hold : OldV P w imm F k base n cap rows1 us1 T1 ks1) (hsrc : SrcV P w imm F k y' (a.eval y) n2 rows2 us2 T2 ks2) (hk1 : Kills Λ ks1 ws1) (hk2 : Kills Λ ks2 ws2) (hap : ∀ κ ∈ ks1, ∀ g i m, y' ≠ .ref κ g i m)
    (hroomy : (n + n2) * i.bytes ≤ 140737488355328) {d : Nat} (hod : o.dst = some d) {g : Nat} (hg : g = (lkN σ.heap d 0).gen + 1) (hK : K (ws1 ++ ws2 ++ [.n (d, 0) (.arr g k (rows1 ++ rows2)), .s d (.ref (d, 0) g 0 (n + n2))])) : Comes1 P ρ σ K o a w Q := by
  have hkk := hk1.append hk2
  have hdisk : ∀ κ ∈ ks1, κ ∉ ks2 := fun κ h1 h2 => by obtain ⟨g, i, m, e⟩ := hsrc.keys κ h2; exact hap κ h1 g i m e
  have hd12 : Set.dis T1 T2 := fun b hb hb2 => by
    obtain ⟨κ, h1, hF⟩ := hold.sub b hb
    obtain ⟨κ2, h2, hF2⟩ := hsrc.sub b hb2
    exact h.dis κ κ2 (fun e => hdisk κ h1 (e ▸ h2)) b hF hF2
  have hT : ∀ b, (T1 b ∨ T2 b) → ∃ κ ∈ ks1 ++ ks2, F κ b := fun b hb => by
    rcases hb with hb | hb
    · obtain ⟨κ, h1, hF⟩ := hold.sub b hb; exact ⟨κ, List.mem_append_left _ h1, hF⟩
    · obtain ⟨κ, h1, hF⟩ := hsrc.sub b hb; exact ⟨κ, List.mem_append_right _ h1, hF⟩
  have hwide : ∀ q ∈ rows1 ++ rows2, q.length = k := fun q hq => by rcases List.mem_append.1 hq with hq | hq; exact hold.wide q hq; exact hsrc.wide q hq
  obtain ⟨ad2, c2, ev2, hlie2⟩ := hsrc.val
  have hu2 : us2.length = n2 * k := by rw [hsrc.vals.length, flatten_len hsrc.wide, hsrc.len]
  have hu1 : us1.length = n * k := by rw [hold.vals.length, flatten_len hold.wide, hold.len]
  have hS : Src P i.size s (a.eval y) n2 us2 w := by
    rw [hik]
    exact ⟨.inl ⟨e', es⟩, fun w' => by rw [ev2]; simp [Builtin.lenOf], hsrc.cells w rfl, hsrc.cells w.drew rfl, hu2, fun u hu => oneCell_of (hsrc.one u hu)⟩
  have hex : execOp a.eval o = (Builtin.append_ #[t, s] o.type #[.slice base n cap, a.eval y]).bind (fun v => Sem.pure (Next.value v)) := by
    unfold execOp
    simp only [ho, resolve, invoke, builtin, List.map_toArray, List.map_cons, List.map_nil, hx]
    rfl
  by_cases hroom : n + n2 ≤ cap
  · -- there is room
    rcases hold.lies with ⟨rfl, rfl, rfl, rfl⟩ | ⟨b, p, size, κ, rfl, hκ, hF, hown, hcap, hp, hTb, hR, hn⟩
    · obtain rfl : n2 = 0 := by omega
      obtain rfl : us2 = [] := List.eq_nil_of_length_eq_zero (by omega)
      obtain rfl : rows2 = [] := List.eq_nil_of_length_eq_zero hsrc.len
      obtain ⟨Λ', F', hr, hΛ⟩ := h.onto (κ0 := (d, 0)) (g := g) (k := k) (rows := []) (i' := ⟨g, .nil, k, 0⟩) (w' := w) (S := Set.no) hkk (fun _ z => z.elim) hg (fun _ _ => rfl) rfl ⟨rfl, rfl, rfl, SizesKept.refl w⟩ (fun _ => ⟨rfl, rfl, rfl, .inl ⟨rfl, rfl⟩⟩)
      refine .inl ?_
      have hrun : (Builtin.append_ #[t, s] o.type #[.slice none 0 0, a.eval y]).run P w = .ok (.slice none 0 0) w := by
        simp [Builtin.append_, run_underlying et, run_underlying es, sizeOf, typeInfo, hi, hS.len, hS.cells]
      simp only [Oper.wp, hex]
      rw [show Sem.run P ((Builtin.append_ #[t, s] o.type #[.slice none 0 0, a.eval y]).bind (fun v => Sem.pure (Next.value v))) w = .ok (.value (.slice none 0 0)) w by
        rw [Sem.run_bind' P]; rw [hrun]; rfl]
      simp only [Oper.upon]
      refine ⟨_, hK, imm, Λ', F', ?_⟩
      have := hr.put (d := some d) (x := .ref (d, 0) g 0 0) (v := .slice none 0 0) (fun t ht => by cases ht; exact hd d hod) (by
        simp only [CR, hΛ, RefR]
        exact ⟨Nat.le_refl _, fun _ => by simp, _, _, _, rfl⟩)
      rw [hod, upd_append]
      exact this
    · have hmul : (n + n2) * k ≤ cap * k := Nat.mul_le_mul_right k hroom
      rw [Nat.add_mul] at hmul
      have hst := run_storeCells (P := P) (p + n * k) us2 0 hown (by omega) hsrc.one
      simp only [Nat.add_zero] at hst
      have hbimm : ¬ imm b := h.fimm κ b hF
      have hTb2 : ¬ T2 b := fun hb => by
        obtain ⟨κ2, h2, hF2⟩ := hsrc.sub b hb
        exact h.dis κ κ2 (fun e => hdisk κ hκ (e ▸ h2)) b hF hF2
      have hheap : ∀ q, q ≠ b → (setRow w b (p + n * k) us2).heap[q]? = w.heap[q]? := fun q hq => setRow_heap b us2 w _ q hq
      have hN : ∀ Λ', NR (setRow w b (p + n * k) us2) imm Λ' ⟨g, .at_ b p size, k, (rows1 ++ rows2).length⟩ (.arr g k (rows1 ++ rows2)) (fun q => q = b ∨ T1 q ∨ T2 q) := by
        intro Λ'
        refine ⟨rfl, rfl, rfl, .inr ⟨b, p, size, fun q => T1 q ∨ T2 q, rfl, .inl rfl, fun hb => hb.elim hTb hTb2, fun q hq => .inr hq, Own.setRow us2 hown _, ?_, ?_⟩⟩
        · rw [List.length_append, hold.len, hsrc.len, Nat.add_mul]; omega
        · refine RowsR.of_cells hwide ?_
          rw [List.flatten_append]
          refine CellsR.join (S1 := T1) (S2 := T2) ?_ ?_ (fun q hq => .inl hq) (fun q hq => .inr hq) hd12
          · refine (RowsR.cells (RowsR.far hheap hbimm rows1 p T1 hTb (fun q h1 h2 => ?_) hR)).1
            rw [setRow_at us2 hown _ q (by omega), if_neg]
            rw [hold.len] at h2; omega
          · rw [flatten_len hold.wide, hold.len]
            refine CellsR.of_vals (vs := us2) ?_ (fun j hj => ?_)
            · exact ValsR.stable (Set.le_refl _) (fun q hq => hheap q (fun e => hbimm (e ▸ hq))) none none _ _ _ _ trivial (Set.le_refl _) (fun q hq => hheap q (fun e => hTb2 (e ▸ hq))) hsrc.vals
            · rw [setRow_at us2 hown _ _ (by omega), if_pos (by omega)]
              congr 1; omega
      obtain ⟨Λ', F', hr, hΛ⟩ := h.onto (κ0 := (d, 0)) (g := g) (k := k) (rows := rows1 ++ rows2) (i' := ⟨g, .at_ b p size, k, (rows1 ++ rows2).length⟩) (w' := setRow w b (p + n * k) us2) (S := fun q => q = b ∨ T1 q ∨ T2 q) hkk
        (fun q hq => by rcases hq with rfl | hq; exact ⟨κ, List.mem_append_left _ hκ, hF⟩; exact hT q hq) hg
        (fun q hq => hheap q (fun e => hq ⟨κ, List.mem_append_left _ hκ, e ▸ hF⟩)) (setRow_size b us2 w _) ⟨(setRow_os b us2 w _).1, (setRow_os b us2 w _).2.1, (setRow_os b us2 w _).2.2, SizesKept.setRow b us2 w _⟩ hN
      refine .inl ?_
      have hrun : (Builtin.append_ #[t, s] o.type #[.slice (some ⟨b, p, none⟩) n cap, a.eval y]).run P w = .ok (.slice (some ⟨b, p, none⟩) (n + n2) cap) (setRow w b (p + n * k) us2) := by
        simp [Builtin.append_, run_underlying et, run_underlying es, sizeOf, typeInfo, hi, hS.len, hsrc.cells w rfl, hroom, Addr.add_lit, hik, hst]
      simp only [Oper.wp, hex]
      rw [show Sem.run P ((Builtin.append_ #[t, s] o.type #[.slice (some ⟨b, p, none⟩) n cap, a.eval y]).bind (fun v => Sem.pure (Next.value v))) w = .ok (.value (.slice (some ⟨b, p, none⟩) (n + n2) cap)) (setRow w b (p + n * k) us2) by
        rw [Sem.run_bind' P]; rw [hrun]; rfl]
      simp only [Oper.upon]
      refine ⟨_, hK, imm, Λ', F', ?_⟩
      have := hr.put (d := some d) (x := .ref (d, 0) g 0 (n + n2)) (v := .slice (some ⟨b, p, none⟩) (n + n2) cap) (fun t ht => by cases ht; exact hd d hod) (by
        simp only [CR, hΛ, RefR]
        exact ⟨Nat.le_refl _, fun _ => ⟨p, cap, rfl, hroom, by simp [hold.len, hsrc.len], hp, .inr ⟨by simp, hcap⟩⟩, _, _, _, rfl⟩)
      rw [hod, upd_append]
      exact this
  · -- there is none
    have hg2 : cap < n + n2 := by omega
    have hfit : Builtin.nextslicecap (n + n2) cap * i.bytes ≤ 281474976710656 := by
      have h1 := Nat.mul_le_mul_right i.bytes (nextslicecap_le hg2)
      rw [Nat.mul_assoc] at h1
      omega
    · have hnb : (n + n2) * i.bytes ≤ 281474976710656 := Nat.le_trans (Nat.mul_le_mul_right _ (le_nextslicecap hg2)) hfit
      have h63 : ((n + n2 : Nat) : Int) ≤ 9223372036854775807 := by
        have : n + n2 ≤ (n + n2) * i.bytes := Nat.le_mul_of_pos_right _ (Nat.pos_of_ne_zero hby)
        omega
      have hrun := run_append_grow_src (P := P) w t s o.type e i z et hi hz base n cap us1 (by rw [hik]; exact hold.cells w.drew rfl) (a.eval y) n2 us2 hS hg2 h63 hfit
      have hge := grownCap_ge w (n + n2) cap e
      generalize hgc : grownCap w (n + n2) cap e = gc at hrun hge
      obtain ⟨t1, t2, t3⟩ := kill_T h.draw hT
      have hr := h.draw.kills hkk
      refine .inl (newslice (w := w.drew) (w1 := w) (σ := σ.upd (ws1 ++ ws2)) (σ0 := σ) (ws := ws1 ++ ws2) (e := e) (n := n + n2) (cap := gc) (k := k) (zs := us1 ++ us2) (rows := rows1 ++ rows2) (T := fun b => T1 b ∨ T2 b)
        (c := (us1 ++ us2).toArray ++ Builtin.zeroCells z.cells (gc - (n + n2))) hr hd hod t1 t2 t3 (fun j hj => ?_) ?_ hwide (by simp [hold.len, hsrc.len]) hge ?_ (by rw [hkk.gen h (d, 0)]; exact hg) ?_ (fun _ _ => hK) rfl)
      · rw [Array.getElem?_append_left (by simpa using hj)]; simp
      · rw [List.flatten_append]
        exact ValsR.join (ValsR.stable (w := w) (w' := w.drew) (Set.le_refl _) (fun _ _ => rfl) none none _ _ _ _ trivial (Set.le_refl _) (fun _ _ => rfl) hold.vals) (ValsR.stable (w := w) (w' := w.drew) (Set.le_refl _) (fun _ _ => rfl) none none _ _ _ _ trivial (Set.le_refl _) (fun _ _ => rfl) hsrc.vals) (fun _ z => .inl z) (fun _ z => .inr z) hd12
      · have hmul : gc * k = (n + n2) * k + (gc - (n + n2)) * k := by rw [← Nat.add_mul]; congr 1; omega
        simp only [Array.size_append, List.size_toArray, List.length_append, hu1, hu2, Builtin.zeroCells, Array.size_map, Array.size_range, hzs]
        rw [hmul, Nat.add_mul]
        exact Nat.le_refl _
      · rw [hex, Sem.run_bind' P, hrun]
        rfl

theorem append_sound (hE : EOk P E) (h : RelX ρ σ a w imm Λ F) (hd : ∀ t, o.dst = some t → t < ρ.n) {c : Call} (ho : o.op = .call c) (hb : c.callee = .builtin .append) {x y : Operand} {t s : Nat} (hx : c.args.toList = [x, y]) (ht : c.argTypes.toList = [t, s])
    (hs : isSlice (E.info s).td = true) (hh : (opd x fun a => opd y fun b => appendPg E (canon Fn LW) o.dst t (tmpOf y) a b).holds σ K) : Comes1 P ρ σ K o a w Q := by
  have hc : c = { callee := .builtin .append, args := #[x, y], argTypes := #[t, s] } := by
    cases c with
    | mk ca ar at_ =>
      simp only at hb hx ht
      subst hb
      congr 1 <;> exact Array.ext' (by simpa)
  subst hc
  have hes : ∃ e', P.underlying s = some (.slice e') := by
    obtain ⟨i, d, z, _, _, _, hd', htd, _⟩ := hE s (.inr (by cases h : (E.info s).td <;> rw [h] at hs <;> simp [isSlice] at hs; rfl))
    cases hq : (E.info s).td <;> rw [hq] at hs <;> simp [isSlice] at hs
    rw [hq] at htd
    cases d <;> simp only [tdOk] at htd
    exact ⟨_, hd'⟩
  obtain ⟨e', hes⟩ := hes
  obtain ⟨x', y', hxv, hyv, hk⟩ := h.opd2 hh
  clear hh
  unfold appendPg at hk
  split at hk
  · rename_i e het
    split at hk
    · exact hk.elim
    rename_i hz
    obtain ⟨d, hod, hk'⟩ := oo_holds hk
    clear hk
    obtain ⟨i, td, z, _, _, _, hd', htd, _⟩ := hE t (.inr (by rw [het]; rfl))
    rw [het] at htd
    cases td <;> simp only [tdOk] at htd
    rename_i el
    obtain rfl : e = el := htd.symm
    have hz0 : (E.info e).size ≠ 0 := fun h0 => hz (.inl h0)
    obtain ⟨i', td', z', hi', hsz', hby, _, _, hz1, hz2, hz3⟩ := hE e (.inl hz0)
    have hzsz : z'.cells.size = (E.info e).size := by rw [← hz3, hz2]; simp
    have hby0 : i'.bytes ≠ 0 := by rw [hby]; exact fun h0 => hz (.inr h0)
    split at hk'
    · -- onto nothing
      have hx0 : a.eval x = .slice none 0 0 := CR_lit hxv
      obtain ⟨n2, rows2, us2, ws2, ks2, T2, hK, hkill, hsrc⟩ := take_sound (P := P) h hz0 hyv hk'
      have hold : OldV P w imm F (E.info e).size none 0 0 [] [] Set.no [] :=
        { cells := fun w' _ => by simp [Builtin.firstCells], vals := by simp [ValsR], wide := by simp, len := rfl, lies := .inl ⟨rfl, rfl, rfl, rfl⟩, sub := fun _ z => z.elim }
      obtain ⟨hroom, hK⟩ := hK
      refine append_core h hd ho hd' hes hi' hz1 hsz' hz0 hby0 hzsz hx0 hold hsrc (Kills.nil Λ) hkill (by simp) (by rw [Nat.zero_add, hby, ← hsrc.len]; exact hroom) hod rfl ?_
      rw [← hsrc.len, Nat.zero_add]
      exact hK
    · rename_i κ g j n
      replace hk' := h.node hk'
      obtain ⟨nd, hnd, hN, hk2⟩ := hk'
      split at hk2
      · rename_i g' k rows
        split at hk2
        · rename_i hc
          obtain ⟨rfl, rfl, rfl, hiso, _⟩ := hc
          obtain ⟨n2, rows2, us2, ws2, ks2, T2, hK, hkill, hsrc⟩ := take_sound (P := P) h hz0 hyv hk2
          obtain ⟨⟨hn, hroom⟩, hK⟩ := hK
          simp only [CR] at hxv
          obtain ⟨h1, h2, h3, h4⟩ := hN
          have hgone : (Λ κ).loc ≠ .gone := by rcases h4 with ⟨e, _⟩ | ⟨_, _, _, _, e, _⟩ <;> rw [e] <;> simp
          have hk1 : Kills Λ [κ] [.n κ (.dead g)] := by
            have := (Kills.nil Λ).cons κ
            rw [h1] at this; exact this
          have hap : ∀ κ' ∈ [κ], ∀ g i m, y' ≠ .ref κ' g i m := by
            rintro κ' hκ' g i m rfl
            simp at hκ'; subst hκ'
            simp only [isRefTo] at hiso
            have := (inKeys_iff κ' [κ']).2 (by simp)
            rw [this] at hiso; cases hiso
          have fin : ∀ {base : Option Addr} {cap : Nat} {us1 : List Value} {T1 : Set}, a.eval x = .slice base n cap → OldV P w imm F (E.info e).size base n cap (rows.take n) us1 T1 [κ] → Comes1 P ρ σ K o a w Q := by
            intro base cap us1 T1 hx0 hold
            refine append_core h hd ho hd' hes hi' hz1 hsz' hz0 hby0 hzsz hx0 hold hsrc hk1 hkill hap (by rw [hby, ← hsrc.len]; exact hroom) hod rfl ?_
            have e1 : (canon Fn LW).app ((canon Fn LW).part rows 0 n) rows2 = rows.take n ++ rows2 := by simp [canon]
            rw [e1] at hK
            rw [← hsrc.len]
            exact hK
          have h5 := hxv.2.1 h1.symm
          rcases h4 with ⟨e1, rfl⟩ | ⟨b, base, size, S', e1, g1, g2, g3, g4, g5, g6⟩
          · rw [e1] at h5
            obtain ⟨_, rfl, hx0⟩ := h5
            exact fin (us1 := []) (T1 := Set.no) hx0 { cells := fun w' _ => by simp [Builtin.firstCells], vals := by simp [ValsR], wide := by simp, len := rfl, lies := .inl ⟨rfl, rfl, rfl, rfl⟩, sub := fun _ z => z.elim }
          · rw [e1] at h5
            obtain ⟨p, cap, hx0, i1, i2, i3, i4⟩ := h5
            have hR0 : RowsR w imm none (rows.take n) b base (E.info e).size S' := RowsR.take n rows base S' g6
            have hR : RowsR w imm none (rows.take n) b p (E.info e).size S' := by
              rcases Nat.eq_zero_or_pos n with h0 | h0
              · subst h0; simp [RowsR]
              · rcases i4 with i4 | ⟨i4, _⟩
                · omega
                · rw [i4]; simpa using hR0
            obtain ⟨hc, hwide⟩ := hR.cells
            obtain ⟨us1, hl, hcell, hv⟩ := CellsR.vals _ _ _ hc
            have hlen : (rows.take n).length = n := by simp; omega
            refine fin (us1 := us1) (T1 := S') hx0 { cells := fun w' hw' => ?_, vals := hv, wide := hwide, len := hlen, lies := .inr ⟨b, p, size, κ, rfl, by simp, g1, g4, ?_, i3, g2, hR, i1⟩, sub := fun q hq => ⟨κ, by simp, g3 q hq⟩ }
            · have hrun := run_loadCellsFrom (P := P) b p w' us1 0 #[] (fun j hj => by rw [show p + 0 + j = p + j by omega, cell?_same (w := w) (w' := w') (by rw [hw'])]; exact hcell j hj)
              simp only [Builtin.firstCells, loadCells]
              rw [show n * (E.info e).size = us1.length by rw [hl, flatten_len hwide, hlen]]
              simpa using hrun
            · rcases i4 with rfl | ⟨_, i4⟩
              · simpa using i3
              · rw [← h2]; exact i4
        · exact hk2.elim
      · exact hk2.elim
    · exact hk'.elim
  · exact hk.elim
end
end Go.Vm
/- What is handed on in a call: taken or frozen. -/
namespace Go.Vm
section
variable {P : Program} {E : TE} {Fn : FuncId → List A → List A → A → Prop} {LW : Code → (Ex → St → Prop) → St → Prop} {w : World}

theorem fzRows_len : ∀ rows : Rows, (fzRows rows).length = rows.length
  | [] => rfl
  | r :: rs => by simp [fzRows, fzRows_len rs]
theorem fzCells_len : ∀ cs : List A, (fzCells cs).length = cs.length
  | [] => rfl
  | r :: rs => by simp [fzCells, fzCells_len rs]
mutual
theorem CR.freeze {imm imm' : Set} (hi : Set.le imm imm') : ∀ (a : A) (v : Value) (S : Set), CR w imm none a v S → Set.le S imm' → CR w imm' none (fz a) v Set.no
  | .lit _, v, S, h, _ => by simp only [fz, CR] at h ⊢; exact h
  | .emp, v, S, h, _ => by simp only [fz, CR] at h ⊢; exact h
  | .tree rows, v, S, h, _ => by
    simp only [fz]
    exact CR.stable hi (fun _ _ => rfl) none none _ _ _ _ trivial (Set.le_refl _) (fun _ _ => rfl) (by simp only [CR] at h ⊢; exact h)
  | .inl k rows, v, S, h, hS => by
    simp only [fz, CR] at h ⊢
    obtain ⟨a, cap, e, h⟩ := h
    rcases h with ⟨rfl, rfl, rfl⟩ | ⟨b, o, size, S', rfl, h1, h2, h3, h4, h5, h6, h7, h8⟩
    · exact ⟨none, 0, e, Nat.le_refl _, .inl rfl⟩
    · refine ⟨_, cap, by rw [fzRows_len]; exact e, by rw [fzRows_len]; exact h7, .inr ⟨b, o, k, rfl, hS b h1, RowsR.freeze hi rows b o k S' h8 (Set.le_trans h3 hS)⟩⟩
  | .obox _, v, S, _, _ => by simp only [fz, CR]
  | .optr _ _ _, v, S, _, _ => by simp only [fz, CR]
  | .ref .., v, S, h, _ => by simp only [CR] at h
  | .mptr .., v, S, h, _ => by simp only [CR] at h
  | .iptr r o, v, S, h, _ => by
    simp only [fz]
    exact CR.stable hi (fun _ _ => rfl) none none _ _ _ _ trivial (Set.le_refl _) (fun _ _ => rfl) (by simp only [CR] at h ⊢; exact h)
  | .agg cs, v, S, h, hS => by
    simp only [fz, CR] at h ⊢
    obtain ⟨vs, e, hr⟩ := h
    exact ⟨vs, e, ValsR.freeze hi cs vs S hr hS⟩
  | .tup cs, v, S, h, hS => by
    simp only [fz, CR] at h ⊢
    obtain ⟨vs, e, hr⟩ := h
    exact ⟨vs, e, ValsR.freeze hi cs vs S hr hS⟩
  | .clo f cs, v, S, h, _ => by
    simp only [fz]
    exact CR.stable hi (fun _ _ => rfl) none none _ _ _ _ trivial (Set.le_refl _) (fun _ _ => rfl) (by simp only [CR] at h ⊢; exact h)
  | .hole, v, S, _, _ => by simp only [fz, CR]
theorem ValsR.freeze {imm imm' : Set} (hi : Set.le imm imm') : ∀ (cs : List A) (vs : List Value) (S : Set), ValsR w imm none cs vs S → Set.le S imm' → ValsR w imm' none (fzCells cs) vs Set.no
  | [], [], _, _, _ => by simp only [fzCells, ValsR]
  | [], _ :: _, _, h, _ => by simp only [ValsR] at h
  | _ :: _, [], _, h, _ => by simp only [ValsR] at h
  | c :: cs, v :: vs, S, h, hS => by
    simp only [fzCells, ValsR] at h ⊢
    obtain ⟨S1, S2, h1, h2, h3, h4, _⟩ := h
    exact ⟨Set.no, Set.no, CR.freeze hi c v S1 h1 (Set.le_trans h3 hS), ValsR.freeze hi cs vs S2 h2 (Set.le_trans h4 hS), Set.le_refl _, Set.le_refl _, Set.no_dis _⟩
theorem CellsR.freeze {imm imm' : Set} (hi : Set.le imm imm') : ∀ (cs : List A) (b o : Nat) (S : Set), CellsR w imm none cs b o S → Set.le S imm' → CellsR w imm' none (fzCells cs) b o Set.no
  | [], _, _, _, _, _ => by simp only [fzCells, CellsR]
  | c :: cs, b, o, S, h, hS => by
    simp only [fzCells, CellsR] at h ⊢
    obtain ⟨v, S1, S2, h0, h1, h2, h3, h4, _⟩ := h
    exact ⟨v, Set.no, Set.no, h0, CR.freeze hi c v S1 h1 (Set.le_trans h3 hS), CellsR.freeze hi cs b (o + 1) S2 h2 (Set.le_trans h4 hS), Set.le_refl _, Set.le_refl _, Set.no_dis _⟩
theorem RowsR.freeze {imm imm' : Set} (hi : Set.le imm imm') : ∀ (rs : Rows) (b o k : Nat) (S : Set), RowsR w imm none rs b o k S → Set.le S imm' → RowsR w imm' none (fzRows rs) b o k Set.no
  | [], _, _, _, _, _, _ => by simp only [fzRows, RowsR]
  | r :: rs, b, o, k, S, h, hS => by
    simp only [fzRows, RowsR] at h ⊢
    obtain ⟨S1, S2, h0, h1, h2, h3, h4, _⟩ := h
    exact ⟨Set.no, Set.no, by rw [fzCells_len]; exact h0, CellsR.freeze hi r b o S1 h1 (Set.le_trans h3 hS), RowsR.freeze hi rs b (o + k) k S2 h2 (Set.le_trans h4 hS), Set.le_refl _, Set.le_refl _, Set.no_dis _⟩
end

/-- nodes on the way through a call, as they were known before it: dead, or what they are -/
structure Phase (σ : St) (Λ : Lam) (Pool : Set) (σ1 : St) (w : World) (imm : Set) (F : Key → Set) : Prop where
  slots : ∀ t, lkS σ1.slots t = lkS σ.slots t
  nodes : ∀ κ : Key, lkN σ1.heap κ.1 κ.2 = .dead (Λ κ).gen ∨ NR w imm Λ (Λ κ) (lkN σ1.heap κ.1 κ.2) (F κ)
  dis : ∀ κ κ', κ ≠ κ' → Set.dis (F κ) (F κ')
  fimm : ∀ κ, Set.dis (F κ) imm
  pool : ∀ κ b, F κ b → Pool b
/-- what is in no node's hand -/
structure Hand (F : Key → Set) (imm Pool : Set) (S : Set) : Prop where
  dis : ∀ κ, Set.dis S (F κ)
  imm : Set.dis S imm
  pool : Set.le S Pool
theorem Hand.no {F : Key → Set} {imm Pool : Set} : Hand F imm Pool Set.no := ⟨fun _ => Set.no_dis _, Set.no_dis _, Set.no_le _⟩
theorem Hand.le {F : Key → Set} {imm Pool S T : Set} (h : Hand F imm Pool S) (hT : Set.le T S) : Hand F imm Pool T :=
  ⟨fun κ => Set.dis_le (h.dis κ) hT (Set.le_refl _), Set.dis_le h.imm hT (Set.le_refl _), Set.le_trans hT h.pool⟩

/-- the operands that are lent, and what they were known to be -/
def Lent (w : World) (Λ : Lam) : List A → List A → Prop
  | .ref κ g i n :: as, .inl k _ :: ds => ((Λ κ).gen = g ∧ (Λ κ).k = k ∧ (Λ κ).n = n ∧ i = 0 ∧ (Λ κ).loc ≠ .gone ∧ ∀ b base size, (Λ κ).loc = .at_ b base size → Own w b size ∧ base + (Λ κ).n * (Λ κ).k ≤ size) ∧ Lent w Λ as ds
  | .mptr κ g i off :: as, .obox cells :: ds => ((Λ κ).gen = g ∧ (Λ κ).k = cells.length ∧ (Λ κ).n = 1 ∧ i = 0 ∧ off = 0 ∧ (Λ κ).loc ≠ .gone ∧ ∀ b base size, (Λ κ).loc = .at_ b base size → Own w b size ∧ base + (Λ κ).n * (Λ κ).k ≤ size) ∧ Lent w Λ as ds
  | .agg cs :: as, .agg es :: ds => Lent w Λ cs es ∧ Lent w Λ as ds
  | _ :: as, _ :: ds => Lent w Λ as ds
  | _, _ => True

variable {σ σ1 : St} {Λ : Lam} {Pool imm imm1 : Set} {F1 F : Key → Set}

theorem Phase.wider (h : Phase σ Λ Pool σ1 w imm1 F1) {S imm2 : Set} (hS : Hand F1 imm1 Pool S) (h2 : ∀ b, imm2 b ↔ imm1 b ∨ S b) : Phase σ Λ Pool σ1 w imm2 F1 where
  slots := h.slots
  nodes κ := (h.nodes κ).imp id fun hN => NR.stable (fun b hb => (h2 b).2 (.inl hb)) (fun _ _ => rfl) (fun _ _ => rfl) (LamLe.refl Λ) hN
  dis := h.dis
  fimm κ b hb hi := by
    rcases (h2 b).1 hi with h' | h'
    · exact h.fimm κ b hb h'
    · exact hS.dis κ b h' hb
  pool := h.pool
/-- one node is taken out of the nodes' hands -/
theorem Phase.kill (h : Phase σ Λ Pool σ1 w imm1 F1) (κ : Key) {g : Nat} (hg : (Λ κ).gen = g) : Phase σ Λ Pool (σ1.upd [.n κ (.dead g)]) w imm1 (up F1 κ Set.no) ∧ Hand (up F1 κ Set.no) imm1 Pool (F1 κ) := by
  refine ⟨⟨h.slots, fun x => ?_, fun x y hxy => ?_, fun x => ?_, fun x b hb => ?_⟩, ⟨fun x => ?_, h.fimm κ, h.pool κ⟩⟩
  · show lkN ((κ, HN.dead g) :: σ1.heap) x.1 x.2 = _ ∨ NR _ _ _ _ (lkN ((κ, HN.dead g) :: σ1.heap) x.1 x.2) _
    rw [lkN_cons]
    by_cases e : x = κ
    · subst e; rw [if_pos rfl, hg]; exact .inl rfl
    · rw [if_neg e, up_ne _ _ e]; exact h.nodes x
  · by_cases e : x = κ
    · subst e; rw [up_same]; exact Set.no_dis _
    · rw [up_ne _ _ e]
      by_cases e' : y = κ
      · subst e'; rw [up_same]; exact fun _ _ z => z
      · rw [up_ne _ _ e']; exact h.dis x y hxy
  · by_cases e : x = κ
    · subst e; rw [up_same]; exact Set.no_dis _
    · rw [up_ne _ _ e]; exact h.fimm x
  · by_cases e : x = κ
    · subst e; rw [up_same] at hb; exact hb.elim
    · rw [up_ne _ _ e] at hb; exact h.pool x b hb
  · by_cases e : x = κ
    · subst e; rw [up_same]; exact fun _ _ z => z
    · rw [up_ne _ _ e]; exact h.dis κ x (fun z => e z.symm)
/-- a node is known anew -/
theorem Phase.set (h : Phase σ Λ Pool σ1 w imm1 F1) (κ : Key) {n : HN} {S : Set} (hS : Hand (up F1 κ Set.no) imm1 Pool S) (hN : NR w imm1 Λ (Λ κ) n S) : Phase σ Λ Pool (σ1.upd [.n κ n]) w imm1 (up F1 κ S) := by
  refine ⟨h.slots, fun x => ?_, fun x y hxy => ?_, fun x => ?_, fun x b hb => ?_⟩
  · show lkN ((κ, n) :: σ1.heap) x.1 x.2 = _ ∨ NR _ _ _ _ (lkN ((κ, n) :: σ1.heap) x.1 x.2) _
    rw [lkN_cons]
    by_cases e : x = κ
    · subst e; rw [if_pos rfl, up_same]; exact .inr hN
    · rw [if_neg e, up_ne _ _ e]; exact h.nodes x
  · have key : ∀ y, y ≠ κ → Set.dis S (F1 y) := fun y e => by have := hS.dis y; rwa [up_ne _ _ e] at this
    by_cases e : x = κ
    · subst e
      rw [up_same, up_ne _ _ (fun z => hxy z.symm)]
      exact key y (fun z => hxy z.symm)
    · rw [up_ne _ _ e]
      by_cases e' : y = κ
      · subst e'; rw [up_same]; exact fun b h1 h2 => key x e b h2 h1
      · rw [up_ne _ _ e']; exact h.dis x y hxy
  · by_cases e : x = κ
    · subst e; rw [up_same]; exact hS.imm
    · rw [up_ne _ _ e]; exact h.fimm x
  · by_cases e : x = κ
    · subst e; rw [up_same] at hb; exact hS.pool b hb
    · rw [up_ne _ _ e] at hb; exact h.pool x b hb

/-- a stretch of a frozen row -/
theorem tree_part {i : KI} {g j n : Nat} {u : Value} {rows : Rows} {b base size : Nat} (hr : RefR i g j n u) (hg : i.gen = g) (hl : i.loc = .at_ b base size) (hn : j + n ≤ rows.length) (hb : imm b) (hR : RowsR w imm none rows b base i.k Set.no) :
    CR w imm none (.tree ((rows.drop j).take n)) u Set.no := by
  have h3 := hr.2.1 hg.symm
  rw [hl] at h3
  obtain ⟨o, cap, rfl, h1, h2, h4, h5⟩ := h3
  simp only [CR]
  have hlen : ((rows.drop j).take n).length = n := by simp; omega
  refine ⟨_, cap, by rw [hlen], by rw [hlen]; exact h1, ?_⟩
  rcases Nat.eq_zero_or_pos n with h0 | h0
  · subst h0; left; simp
  · right
    rcases h5 with h5 | ⟨h5, _⟩
    · omega
    · exact ⟨b, o, i.k, rfl, hb, by rw [h5]; exact RowsR.take n _ _ _ (RowsR.drop j rows base hR)⟩
theorem tree_nil {i : KI} {g j n : Nat} {u : Value} (hr : RefR i g j n u) (hg : i.gen = g) (hl : i.loc = .nil) (rows : Rows) : CR w imm none (.tree ((rows.drop j).take n)) u Set.no := by
  have h3 := hr.2.1 hg.symm
  rw [hl] at h3
  obtain ⟨_, rfl, rfl⟩ := h3
  simp only [CR]
  exact ⟨none, 0, by simp, by simp, .inl (by simp)⟩

def Out (σ : St) (Λ : Lam) (Pool : Set) (w : World) (σ1 : St) (imm1 : Set) (F1 : Key → Set) (S0 : Set) (us : List Value) (xs : List A) (m : Mode) (f : List A → Pg) (K : List W → Prop) : Prop :=
  ∃ ws ds imm2 F2 S, (f ds).holds (σ1.upd ws) (fun ws2 => K (ws ++ ws2)) ∧ Phase σ Λ Pool (σ1.upd ws) w imm2 F2 ∧ Set.le imm1 imm2 ∧ ValsR w imm2 none ds us S ∧ Hand F2 imm2 Pool S ∧
    (∀ b, imm2 b → imm1 b ∨ S0 b ∨ ∃ κ, F1 κ b) ∧ (∀ κ b, F2 κ b → F1 κ b) ∧ (∀ b, S b → S0 b ∨ ∃ κ, F1 κ b) ∧ (m ≠ .own → ∀ b, ¬ S b) ∧ Lent w Λ xs ds

theorem out_cons {n : Nat} (ih : ∀ (m : Mode) (xs : List A) (us : List Value) (f : List A → Pg) (σ1 : St) (imm1 : Set) (F1 : Key → Set) (S0 : Set) (K : List W → Prop), Phase σ Λ Pool σ1 w imm1 F1 → ValsR w imm1 (some Λ) xs us S0 → Hand F1 imm1 Pool S0 →
      (expo (canon Fn LW) n m xs f).holds σ1 K → Out σ Λ Pool w σ1 imm1 F1 S0 us xs m f K)
    {m : Mode} {x : A} {xs : List A} {u : Value} {us : List Value} {f : List A → Pg} {K : List W → Prop} {S0 S1 S2 : Set} (hv : ValsR w imm1 (some Λ) xs us S2) (hH : Hand F1 imm1 Pool S0) (h1 : Set.le S1 S0) (h2 : Set.le S2 S0) (h12 : Set.dis S1 S2)
    (c : A) (ws0 : List W) {imm' : Set} {F' : Key → Set} {Sx : Set} (hP : Phase σ Λ Pool (σ1.upd ws0) w imm' F') (hi : Set.le imm1 imm') (hc : CR w imm' none c u Sx) (hHx : Hand F' imm' Pool Sx) (hi2 : ∀ b, imm' b → imm1 b ∨ S1 b ∨ ∃ κ, F1 κ b)
    (hF : ∀ κ b, F' κ b → F1 κ b) (hSx : ∀ b, Sx b → S1 b ∨ ∃ κ, F1 κ b) (hm : m ≠ .own → ∀ b, ¬ Sx b) (hL : ∀ ds, Lent w Λ xs ds → Lent w Λ (x :: xs) (c :: ds))
    (hh : (expo (canon Fn LW) n m xs fun as => f (c :: as)).holds (σ1.upd ws0) (fun ws2 => K (ws0 ++ ws2))) : Out σ Λ Pool w σ1 imm1 F1 S0 (u :: us) (x :: xs) m f K := by
  have hH2 : Hand F' imm' Pool S2 := ⟨fun κ b hb hb2 => hH.dis κ b (h2 b hb) (hF κ b hb2), fun b hb hb2 => by
      rcases hi2 b hb2 with h | h | ⟨κ, h⟩
      · exact hH.imm b (h2 b hb) h
      · exact h12 b h hb
      · exact hH.dis κ b (h2 b hb) h, Set.le_trans h2 hH.pool⟩
  obtain ⟨ws, ds, imm2, F2, S, r1, r2, r3, r4, r5, r6, r7, r8, r9, r10⟩ := ih m xs us _ (σ1.upd ws0) imm' F' S2 _ hP (ValsR.stable hi (fun _ _ => rfl) _ _ _ _ _ _ (LamLe?.refl _) (Set.le_refl _) (fun _ _ => rfl) hv) hH2 hh
  have hxS : Set.dis Sx S := fun b hb hb2 => by
    rcases r8 b hb2 with h | ⟨κ, h⟩
    · rcases hSx b hb with h' | ⟨κ, h'⟩
      · exact h12 b h' h
      · exact hH.dis κ b (h2 b h) h'
    · exact hHx.dis κ b hb h
  refine ⟨ws0 ++ ws, c :: ds, imm2, F2, fun b => Sx b ∨ S b, ?_, by rw [upd_append]; exact r2, Set.le_trans hi r3, ?_, ⟨fun κ b hb hb2 => ?_, fun b hb hb2 => ?_, fun b hb => hb.elim (hHx.pool b) (r5.pool b)⟩, fun b hb => ?_, fun κ b hb => hF κ b (r7 κ b hb), fun b hb => ?_, fun hmm b hb => hb.elim (hm hmm b) (r9 hmm b), hL ds r10⟩
  · rw [upd_append]
    simpa only [List.append_assoc] using r1
  · simp only [ValsR]
    exact ⟨Sx, S, CR.stable r3 (fun _ _ => rfl) none none _ _ _ _ trivial (Set.le_refl _) (fun _ _ => rfl) hc, r4, fun b hb => .inl hb, fun b hb => .inr hb, hxS⟩
  · rcases hb with hb | hb
    · exact hHx.dis κ b hb (r7 κ b hb2)
    · exact r5.dis κ b hb hb2
  · rcases hb with hb | hb
    · rcases r6 b hb2 with h | h | ⟨κ, h⟩
      · exact hHx.imm b hb h
      · rcases hSx b hb with h' | ⟨κ, h'⟩
        · exact h12 b h' h
        · exact hH.dis κ b (h2 b h) h'
      · exact hHx.dis κ b hb h
    · exact r5.imm b hb hb2
  · rcases r6 b hb with h | h | ⟨κ, h⟩
    · rcases hi2 b h with h' | h' | h'
      · exact .inl h'
      · exact .inr (.inl (h1 b h'))
      · exact .inr (.inr h')
    · exact .inr (.inl (h2 b h))
    · exact .inr (.inr ⟨κ, hF κ b h⟩)
  · rcases hb with hb | hb
    · exact (hSx b hb).imp (h1 b) id
    · rcases r8 b hb with h | ⟨κ, h⟩
      · exact .inl (h2 b h)
      · exact .inr ⟨κ, hF κ b h⟩

theorem expo_sound : ∀ (n : Nat) (m : Mode) (xs : List A) (us : List Value) (f : List A → Pg) (σ1 : St) (imm1 : Set) (F1 : Key → Set) (S0 : Set) (K : List W → Prop), Phase σ Λ Pool σ1 w imm1 F1 → ValsR w imm1 (some Λ) xs us S0 → Hand F1 imm1 Pool S0 →
      (expo (canon Fn LW) n m xs f).holds σ1 K → Out σ Λ Pool w σ1 imm1 F1 S0 us xs m f K
  | 0, m, xs, us, f, σ1, imm1, F1, S0, K, hP, hv, hH, hh => by cases xs <;> cases m <;> exact hh.elim
  | n + 1, m, [], us, f, σ1, imm1, F1, S0, K, hP, hv, hH, hh => by
    cases us with
    | nil => exact ⟨[], [], imm1, F1, Set.no, hh, hP, Set.le_refl _, by simp only [ValsR], Hand.no, fun b hb => .inl hb, fun _ _ h => h, fun _ z => z.elim, fun _ _ z => z, by simp only [Lent]⟩
    | cons => simp only [ValsR] at hv
  | n + 1, m, x :: xs, [], f, σ1, imm1, F1, S0, K, hP, hv, hH, hh => by simp only [ValsR] at hv
  | n + 1, m, x :: xs, u :: us, f, σ1, imm1, F1, S0, K, hP, hv, hH, hh => by
    simp only [ValsR] at hv
    obtain ⟨S1, S2, hx, hv, h1, h2, h12⟩ := hv
    have ih := fun m xs us f σ1 imm1 F1 S0 K => expo_sound n m xs us f σ1 imm1 F1 S0 K
    -- nothing is written, nothing taken
    have keep : ∀ (c : A), CR w imm1 none c u Set.no → (∀ ds, Lent w Λ xs ds → Lent w Λ (x :: xs) (c :: ds)) → (expo (canon Fn LW) n m xs fun as => f (c :: as)).holds σ1 K → Out σ Λ Pool w σ1 imm1 F1 S0 (u :: us) (x :: xs) m f K :=
      fun c hc hL hh => out_cons ih hv hH h1 h2 h12 c [] hP (Set.le_refl _) hc Hand.no (fun b hb => .inl hb) (fun _ _ h => h) (fun _ z => z.elim) (fun _ _ z => z) hL hh
    by_cases hsk : m = .skip
    · subst hsk
      exact keep .hole (by simp only [CR]) (fun ds h => by cases x <;> simpa [Lent] using h) hh
    by_cases hraw : m = .raw
    · subst hraw
      cases x with
      | lit v =>
        have hu := CR_lit hx
        subst hu
        exact keep (.lit u) (by simp only [CR]) (fun ds h => by simpa [Lent] using h) hh
      | _ => exact hh.elim
    have hvo : m = .val ∨ m = .own := by cases m <;> simp at hsk hraw ⊢
    have hex : (expo (canon Fn LW) (n + 1) m (x :: xs) f).holds σ1 K := hh
    cases x with
    | lit v =>
      have hu := CR_lit hx
      subst hu
      have plainly : (expo (canon Fn LW) n m xs fun as => f (.lit u :: as)).holds σ1 K → Out σ Λ Pool w σ1 imm1 F1 S0 (u :: us) (.lit u :: xs) m f K := fun hh => keep (.lit u) (by simp only [CR]) (fun ds h => by simpa [Lent] using h) hh
      by_cases hnil : u = .slice none 0 0
      · subst hnil
        rcases hvo with rfl | rfl
        · exact keep (.tree []) (by simp only [CR]; exact ⟨none, 0, rfl, Nat.le_refl _, .inl trivial⟩) (fun ds h => by simpa [Lent] using h) hh
        · obtain ⟨k, hh⟩ := hh
          exact keep (.inl k []) (by simp only [CR]; exact ⟨none, 0, rfl, .inl (by simp)⟩) (fun ds h => by simpa [Lent] using h) hh
      · refine plainly ?_
        rcases hvo with rfl | rfl <;>
        · simp only [expo] at hh
          exact hh
    | emp =>
      rcases hvo with rfl | rfl
      · refine keep (.tree []) ?_ (fun ds h => by simpa [Lent] using h) hh
        simp only [CR] at hx ⊢
        obtain ⟨ad, e⟩ := hx
        exact ⟨ad, 0, e, Nat.le_refl _, .inl trivial⟩
      · refine keep .emp ?_ (fun ds h => by simpa [Lent] using h) hh
        simp only [CR] at hx ⊢
        exact hx
    | tree rows =>
      refine keep (.tree rows) (by simp only [CR] at hx ⊢; exact hx) (fun ds h => by simpa [Lent] using h) ?_
      rcases hvo with rfl | rfl <;> exact hh
    | iptr row off =>
      refine keep (.iptr row off) (by simp only [CR] at hx ⊢; exact hx) (fun ds h => by simpa [Lent] using h) ?_
      rcases hvo with rfl | rfl <;> exact hh
    | hole => rcases hvo with rfl | rfl <;> exact hh.elim
    | obox => rcases hvo with rfl | rfl <;> exact hh.elim
    | optr => rcases hvo with rfl | rfl <;> exact hh.elim
    | inl k rows =>
      have hx' : CR w imm1 none (.inl k rows) u S1 := by simp only [CR] at hx ⊢; exact hx
      rcases hvo with rfl | rfl
      · have hH1 := hH.le h1
        refine out_cons ih hv hH h1 h2 h12 (.tree (fzRows rows)) [] (imm' := fun b => imm1 b ∨ S1 b) (hP.wider hH1 (fun _ => Iff.rfl)) (fun b hb => .inl hb) ?_ Hand.no (fun b hb => hb.imp id .inl) (fun _ _ h => h) (fun _ z => z.elim) (fun _ _ z => z) (fun ds h => by simpa [Lent] using h) hh
        have := CR.freeze (imm' := fun b => imm1 b ∨ S1 b) (fun b hb => .inl hb) _ _ _ hx' (fun b hb => .inr hb)
        simpa only [fz] using this
      · exact out_cons ih hv hH h1 h2 h12 (.inl k rows) [] hP (Set.le_refl _) hx' (hH.le h1) (fun b hb => .inl hb) (fun _ _ h => h) (fun _ z => .inl z) (fun z => absurd rfl z) (fun ds h => by simpa [Lent] using h) hh
    | agg cs =>
      have hh' : (expo (canon Fn LW) n m cs fun cs' => expo (canon Fn LW) n m xs fun as => f (.agg cs' :: as)).holds σ1 K := by rcases hvo with rfl | rfl <;> exact hh
      simp only [CR] at hx
      obtain ⟨vs, rfl, hx⟩ := hx
      obtain ⟨ws, ds, imm2, F2, S, r1, r2, r3, r4, r5, r6, r7, r8, r9, r10⟩ := ih m cs vs _ σ1 imm1 F1 S1 K hP hx (hH.le h1) hh'
      exact out_cons ih hv hH h1 h2 h12 (.agg ds) ws r2 r3 (by simp only [CR]; exact ⟨vs, rfl, r4⟩) r5 r6 r7 r8 r9 (fun ds h => by simp only [Lent]; exact ⟨r10, h⟩) r1
    | tup cs =>
      have hh' : (expo (canon Fn LW) n m cs fun cs' => expo (canon Fn LW) n m xs fun as => f (.tup cs' :: as)).holds σ1 K := by rcases hvo with rfl | rfl <;> exact hh
      simp only [CR] at hx
      obtain ⟨vs, rfl, hx⟩ := hx
      obtain ⟨ws, ds, imm2, F2, S, r1, r2, r3, r4, r5, r6, r7, r8, r9, _⟩ := ih m cs vs _ σ1 imm1 F1 S1 K hP hx (hH.le h1) hh'
      exact out_cons ih hv hH h1 h2 h12 (.tup ds) ws r2 r3 (by simp only [CR]; exact ⟨vs, rfl, r4⟩) r5 r6 r7 r8 r9 (fun ds h => by simpa [Lent] using h) r1
    | clo g cs =>
      have hh' : (expo (canon Fn LW) n .val cs fun cs' => expo (canon Fn LW) n m xs fun as => f (.clo g cs' :: as)).holds σ1 K := by rcases hvo with rfl | rfl <;> exact hh
      simp only [CR] at hx
      obtain ⟨vs, rfl, hx⟩ := hx
      obtain ⟨ws, ds, imm2, F2, S, r1, r2, r3, r4, r5, r6, r7, r8, r9, _⟩ := ih .val cs vs _ σ1 imm1 F1 Set.no K hP hx Hand.no hh'
      have hS : Set.le S Set.no := fun b hb => r9 (by simp) b hb
      exact out_cons ih hv hH h1 h2 h12 (.clo g ds) ws r2 r3 (by simp only [CR]; exact ⟨vs, rfl, r4.mono hS⟩) (Sx := Set.no) Hand.no (fun b hb => (r6 b hb).imp id (fun z => z.elim (fun y => y.elim) .inr)) r7 (fun _ z => z.elim) (fun _ _ z => z) (fun ds h => by simpa [Lent] using h) r1
    | ref κ g i k =>
      simp only [CR] at hx
      have hN := hP.nodes κ
      have hh' : (Pg.gn κ fun h => match h with
        | .farr g' _ rows => if g = g' then .need (i + k ≤ rows.length) (expo (canon Fn LW) n m xs fun as => f (.tree ((canon Fn LW).part rows i k) :: as)) else .fail
        | .arr g' s rows => match m with
          | .own => if g = g' ∧ i = 0 then .need (k = rows.length) (.wr [.n κ (.dead g')] (expo (canon Fn LW) n m xs fun as => f (.inl s rows :: as))) else .fail
          | _ => if g = g' then .need (i + k ≤ rows.length) (.wr [.n κ (.farr g' s ((canon Fn LW).fz rows))] (expo (canon Fn LW) n m xs fun as => f (.tree ((canon Fn LW).part ((canon Fn LW).fz rows) i k) :: as))) else .fail
        | _ => .fail).holds σ1 K := by rcases hvo with rfl | rfl <;> exact hh
      simp only [Pg.holds] at hh'
      generalize lkN σ1.heap κ.1 κ.2 = nd at hN hh'
      have lentTree : ∀ {rows : Rows} (ds : List A), Lent w Λ xs ds → Lent w Λ (.ref κ g i k :: xs) (.tree rows :: ds) := fun ds h => by simpa [Lent] using h
      split at hh'
      · rename_i g' s rows
        split at hh'
        · rename_i hg
          subst hg
          obtain ⟨hn, hh'⟩ := hh'
          rcases hN with hN | hN
          · cases hN
          · obtain ⟨q1, q2, q3, q4⟩ := hN
            refine keep _ ?_ lentTree hh'
            rcases q4 with ⟨e, rfl⟩ | ⟨b, base, size, e, q5, q6⟩
            · exact tree_nil hx q1 e _
            · exact tree_part hx q1 e hn q5 (by rw [q2]; exact q6)
        · exact hh'.elim
      · rename_i g' s rows
        rcases hN with hN | hN
        · cases hN
        have hN' := hN
        obtain ⟨q1, q2, q3, q4⟩ := hN
        rcases hvo with rfl | rfl
        · simp only at hh'
          split at hh'
          · rename_i hg
            subst hg
            obtain ⟨hn, hh'⟩ := hh'
            obtain ⟨hPk, hHk⟩ := hP.kill κ q1
            have hPw := hPk.wider (imm2 := fun b => imm1 b ∨ F1 κ b) hHk (fun _ => Iff.rfl)
            have hNf : NR w (fun b => imm1 b ∨ F1 κ b) Λ (Λ κ) (.farr g s (fzRows rows)) Set.no := by
              refine ⟨q1, q2, by rw [fzRows_len]; exact q3, ?_⟩
              rcases q4 with ⟨e, rfl⟩ | ⟨b, base, size, S', e, q5, q6, q7, q8, q9, q10⟩
              · exact .inl ⟨e, rfl⟩
              · exact .inr ⟨b, base, size, e, .inr q5, RowsR.freeze (fun b hb => .inl hb) rows b base s S' q10 (fun b hb => .inr (q7 b hb))⟩
            have hP2 : Phase σ Λ Pool (σ1.upd [.n κ (.farr g s (fzRows rows))]) w (fun b => imm1 b ∨ F1 κ b) (up F1 κ Set.no) := by
              have := hPw.set κ (n := .farr g s (fzRows rows)) (S := Set.no) Hand.no hNf
              refine ⟨hP.slots, fun x => ?_, fun x y hxy => ?_, fun x => ?_, fun x b hb => ?_⟩
              · have h' := this.nodes x
                have e1 : up (up F1 κ Set.no) κ Set.no x = up F1 κ Set.no x := by unfold up; split <;> rfl
                rw [e1] at h'
                have e2 : lkN ((σ1.upd [.n κ (.dead g)]).upd [.n κ (.farr g s (fzRows rows))]).heap x.1 x.2 = lkN (σ1.upd [.n κ (.farr g s (fzRows rows))]).heap x.1 x.2 := by
                  show lkN ((κ, _) :: (κ, _) :: σ1.heap) x.1 x.2 = lkN ((κ, _) :: σ1.heap) x.1 x.2
                  rw [lkN_cons, lkN_cons, lkN_cons]; split <;> rfl
                rw [e2] at h'
                exact h'
              · exact hPw.dis x y hxy
              · exact hPw.fimm x
              · exact hPw.pool x b hb
            refine out_cons ih hv hH h1 h2 h12 _ [.n κ (.farr g s (fzRows rows))] hP2 (fun b hb => .inl hb) (Sx := Set.no) ?_ Hand.no (fun b hb => hb.imp id (fun z => .inr ⟨κ, z⟩)) (fun x b hb => ?_) (fun _ z => z.elim) (fun _ _ z => z) lentTree hh'
            · obtain ⟨f1, f2, f3, f4⟩ := hNf
              rcases f4 with ⟨e, e2⟩ | ⟨b, base, size, e, f5, f6⟩
              · exact tree_nil hx q1 e _
              · exact tree_part hx q1 e (by rw [show (canon Fn LW).fz rows = fzRows rows from rfl, fzRows_len]; exact hn) f5 (by rw [q2]; exact f6)
            · by_cases e : x = κ
              · subst e; rw [up_same] at hb; exact hb.elim
              · rw [up_ne _ _ e] at hb; exact hb
          · exact hh'.elim
        · simp only at hh'
          split at hh'
          · rename_i hg
            obtain ⟨rfl, rfl⟩ := hg
            obtain ⟨hn, hh'⟩ := hh'
            obtain ⟨hPk, hHk⟩ := hP.kill κ q1
            refine out_cons ih hv hH h1 h2 h12 (.inl s rows) [.n κ (.dead g)] hPk (Set.le_refl _) (inl_of_ref hN' hx hn) hHk (fun b hb => .inl hb) (fun x b hb => ?_) (fun b hb => .inr ⟨κ, hb⟩) (fun z => absurd rfl z) (fun ds h => ?_) hh'
            · by_cases e : x = κ
              · subst e; rw [up_same] at hb; exact hb.elim
              · rw [up_ne _ _ e] at hb; exact hb
            · simp only [Lent]
              refine ⟨⟨q1, q2, by rw [q3, hn], trivial, ?_, fun b base size e' => ?_⟩, h⟩
              · rcases q4 with ⟨e, _⟩ | ⟨_, _, _, _, e, _⟩ <;> rw [e] <;> simp
              · rcases q4 with ⟨e, _⟩ | ⟨b', base', size', _, e, _, _, _, ho, hfit, _⟩ <;> rw [e] at e' <;> cases e'
                exact ⟨ho, by rw [q3, q2]; exact hfit⟩
          · exact hh'.elim
      · exact hh'.elim
    | mptr κ g i off =>
      simp only [CR] at hx
      have hN := hP.nodes κ
      have hh' : (Pg.gn κ fun h => match h with
        | .fbox g' cells => if g = g' ∧ i = 0 then expo (canon Fn LW) n m xs fun as => f (.iptr cells off :: as) else .fail
        | .farr g' _ rows => if g = g' then .ex (List A) fun row => .need ((canon Fn LW).At rows i row) (expo (canon Fn LW) n m xs fun as => f (.iptr row off :: as)) else .fail
        | .box g' cells => match m with
          | .own => if g = g' ∧ i = 0 ∧ off = 0 then .wr [.n κ (.dead g')] (expo (canon Fn LW) n .own cells fun cs' => expo (canon Fn LW) n m xs fun as => f (.obox cs' :: as)) else .fail
          | _ => if g = g' ∧ i = 0 then .wr [.n κ (.dead g')] (expo (canon Fn LW) n .val cells fun cs' => .wr [.n κ (.fbox g' cs')] (expo (canon Fn LW) n m xs fun as => f (.iptr cs' off :: as))) else .fail
        | _ => .fail).holds σ1 K := by rcases hvo with rfl | rfl <;> exact hh
      simp only [Pg.holds] at hh'
      generalize lkN σ1.heap κ.1 κ.2 = nd at hN hh'
      have lentPtr : ∀ {row : List A} (ds : List A), Lent w Λ xs ds → Lent w Λ (.mptr κ g i off :: xs) (.iptr row off :: ds) := fun ds h => by simpa [Lent] using h
      have upno : ∀ x b, up F1 κ Set.no x b → F1 x b := fun x b hb => by
        by_cases e : x = κ
        · subst e; rw [up_same] at hb; exact hb.elim
        · rw [up_ne _ _ e] at hb; exact hb
      split at hh'
      · rename_i g' cells
        split at hh'
        · rename_i hg
          obtain ⟨rfl, rfl⟩ := hg
          rcases hN with hN | hN
          · cases hN
          · obtain ⟨q1, q2, q3, b, base, size, e, q5, q6⟩ := hN
            refine keep _ ?_ lentPtr hh'
            obtain ⟨b', base', size', e1, e2⟩ := PtrR.at hx q1 (by rw [e]; simp)
            rw [e] at e1; cases e1
            simp only [CR]
            exact ⟨b, base, by rw [e2]; simp, q5, q6⟩
        · exact hh'.elim
      · rename_i g' s rows
        split at hh'
        · rename_i hg
          subst hg
          obtain ⟨row, hrow, hh'⟩ := hh'
          rcases hN with hN | hN
          · cases hN
          · obtain ⟨q1, q2, q3, q4⟩ := hN
            refine keep _ ?_ lentPtr hh'
            replace hrow : rows[i]? = some row := hrow
            rcases q4 with ⟨e, rfl⟩ | ⟨b, base, size, e, q5, q6⟩
            · simp at hrow
            · obtain ⟨b', base', size', e1, e2⟩ := PtrR.at hx q1 (by rw [e]; simp)
              rw [e] at e1; cases e1
              simp only [CR]
              exact ⟨b, base + i * s, by rw [e2, q2], q5, (RowsR.at _ _ _ _ _ q6 hrow).2⟩
        · exact hh'.elim
      · rename_i g' cells
        rcases hN with hN | hN
        · cases hN
        obtain ⟨q1, q2, q3, b, base, size, S', e, q5, q6, q7, q8, q9, q10⟩ := hN
        have hgg : g = g' := by
          rcases hvo with rfl | rfl <;>
          · simp only at hh'
            split at hh'
            · rename_i hg; exact hg.1
            · exact hh'.elim
        obtain ⟨b', base', size', e1, e2⟩ := PtrR.at hx (q1.trans hgg.symm) (by rw [e]; simp)
        rw [e] at e1; cases e1
        obtain ⟨cvs, hcl, hcell, hcv⟩ := CellsR.vals _ _ _ q10
        -- the cells, out of the node's hand
        have inner : ∀ (m' : Mode) (f' : List A → Pg), g = g' → (expo (canon Fn LW) n m' cells f').holds (σ1.upd [.n κ (.dead g')]) (fun ws2 => K ([.n κ (.dead g')] ++ ws2)) →
            ∃ ws cs' imm2 F2 S, (f' cs').holds (σ1.upd ws) (fun ws2 => K (ws ++ ws2)) ∧ Phase σ Λ Pool (σ1.upd ws) w imm2 F2 ∧ Set.le imm1 imm2 ∧ CellsR w imm2 none cs' b base S ∧ Hand F2 imm2 Pool (fun y => y = b ∨ S y) ∧
              (∀ b, imm2 b → imm1 b ∨ ∃ κ, F1 κ b) ∧ (∀ κ b, F2 κ b → F1 κ b) ∧ (∀ b, S b → ∃ κ, F1 κ b) ∧ (m' ≠ .own → ∀ b, ¬ S b) ∧ ¬ S b ∧ cs'.length = cells.length ∧ (∀ y, ¬ F2 κ y) := by
          rintro m' f' rfl hh
          obtain ⟨hPk, hHk⟩ := hP.kill κ q1
          have hSS : Set.le S' (F1 κ) := q7
          obtain ⟨ws, ds, imm2, F2, S, r1, r2, r3, r4, r5, r6, r7, r8, r9, _⟩ := ih m' cells cvs f' _ imm1 (up F1 κ Set.no) S' _ hPk hcv (hHk.le hSS) hh
          have hb2 : ¬ imm2 b := fun hb => by
            rcases r6 b hb with h | h | ⟨x, h⟩
            · exact hP.fimm κ b q5 h
            · exact q6 h
            · by_cases ex : x = κ
              · subst ex; rw [up_same] at h; exact h.elim
              · rw [up_ne _ _ ex] at h; exact hP.dis x κ ex b h q5
          have hbF : ∀ x, ¬ F2 x b := fun x hb => by
            have h := r7 x b hb
            by_cases ex : x = κ
            · subst ex; rw [up_same] at h; exact h.elim
            · rw [up_ne _ _ ex] at h; exact hP.dis x κ ex b h q5
          have hbS : ¬ S b := fun hb => by
            rcases r8 b hb with h | ⟨x, h⟩
            · exact q6 h
            · by_cases ex : x = κ
              · subst ex; rw [up_same] at h; exact h.elim
              · rw [up_ne _ _ ex] at h; exact hP.dis x κ ex b h q5
          refine ⟨.n κ (.dead g) :: ws, ds, imm2, F2, S, r1, r2, r3, CellsR.of_vals r4 (fun j hj => ?_), ⟨fun x y hy hF => ?_, fun y hy hi => ?_, fun y hy => ?_⟩, fun y hy => ?_, fun x y hy => upno x y (r7 x y hy), fun y hy => ?_, r9, hbS, ?_, fun y hy => ?_⟩
          · exact hcell j hj
          · rcases hy with rfl | hy
            · exact hbF x hF
            · exact r5.dis x y hy hF
          · rcases hy with rfl | hy
            · exact hb2 hi
            · exact r5.imm y hy hi
          · rcases hy with rfl | hy
            · exact hP.pool κ y q5
            · exact r5.pool y hy
          · rcases r6 y hy with h | h | ⟨x, h⟩
            · exact .inl h
            · exact .inr ⟨κ, hSS y h⟩
            · exact .inr ⟨x, upno x y h⟩
          · rcases r8 y hy with h | ⟨x, h⟩
            · exact ⟨κ, hSS y h⟩
            · exact ⟨x, upno x y h⟩
          · rw [← r4.length, hcl]
          · have := r7 κ y hy; rw [up_same] at this; exact this
        rcases hvo with rfl | rfl
        · simp only at hh'
          split at hh'
          · rename_i hg
            obtain ⟨rfl, rfl⟩ := hg
            obtain ⟨ws, cs', imm2, F2, S, r1, r2, r3, r4, r5, r6, r7, r8, r9, r10, r11, r12⟩ := inner .val _ rfl hh'
            have hSno : Set.le S Set.no := fun y hy => r9 (by simp) y hy
            have hHb : Hand F2 imm2 Pool (Set.one b) := r5.le (fun y hy => .inl hy)
            have hPw := r2.wider (imm2 := fun y => imm2 y ∨ y = b) hHb (fun _ => Iff.rfl)
            have hNf : NR w (fun y => imm2 y ∨ y = b) Λ (Λ κ) (.fbox g cs') Set.no :=
              ⟨q1, by rw [r11]; exact q2, q3, b, base, size, e, .inr rfl, CellsR.stable (fun y hy => .inl hy) (fun _ _ => rfl) none none _ _ _ _ _ trivial hSno rfl (fun _ _ => rfl) r4⟩
            have hP2 := hPw.set κ (n := .fbox g cs') (S := Set.no) Hand.no hNf
            refine out_cons ih hv hH h1 h2 h12 (.iptr cs' off) (ws ++ [.n κ (.fbox g cs')]) (imm' := fun y => imm2 y ∨ y = b) (F' := up F2 κ Set.no) (by rw [upd_append]; exact hP2) (fun y hy => .inl (r3 y hy)) (Sx := Set.no) ?_ Hand.no (fun y hy => ?_) (fun x y hy => ?_) (fun _ z => z.elim) (fun _ _ z => z) lentPtr ?_
            · simp only [CR]
              exact ⟨b, base, by rw [e2]; simp, .inr rfl, CellsR.stable (fun y hy => .inl hy) (fun _ _ => rfl) none none _ _ _ _ _ trivial hSno rfl (fun _ _ => rfl) r4⟩
            · rcases hy with hy | rfl
              · exact (r6 y hy).imp id .inr
              · exact .inr (.inr ⟨κ, q5⟩)
            · by_cases ex : x = κ
              · subst ex; rw [up_same] at hy; exact hy.elim
              · rw [up_ne _ _ ex] at hy; exact r7 x y hy
            · rw [upd_append]
              simp only [List.append_assoc]
              exact r1
          · exact hh'.elim
        · simp only at hh'
          split at hh'
          · rename_i hg
            obtain ⟨rfl, rfl, rfl⟩ := hg
            obtain ⟨ws, cs', imm2, F2, S, r1, r2, r3, r4, r5, r6, r7, r8, r9, r10, r11, r12⟩ := inner .own _ rfl hh'
            refine out_cons ih hv hH h1 h2 h12 (.obox cs') ws r2 r3 (Sx := fun y => y = b ∨ S y) ?_ r5 (fun y hy => (r6 y hy).imp id .inr) r7 (fun y hy => ?_) (fun z => absurd rfl z) (fun ds h => ?_) r1
            · simp only [CR]
              exact ⟨b, base, size, S, by rw [e2]; simp, .inl rfl, r10, fun y hy => .inr hy, q8, by rw [r11]; exact q9, r4⟩
            · rcases hy with rfl | hy
              · exact .inr ⟨κ, q5⟩
              · exact .inr (r8 y hy)
            · simp only [Lent]
              exact ⟨⟨q1, by rw [r11]; exact q2, q3, trivial, trivial, by rw [e]; simp, fun b' base' size' e' => by rw [e] at e'; cases e'; exact ⟨q8, by rw [q3, q2, Nat.one_mul]; exact q9⟩⟩, h⟩
          · exact hh'.elim
      · exact hh'.elim
end
end Go.Vm
/- Calls: what a function is known to do with data, and what a call of it comes to. -/
namespace Go.Vm

/-- function f, handed data, answers r; what was lent is then post; nothing else of what stood is changed -/
def Body (P : Program) (f : FuncId) : Prop := ∃ fn, P.funcs[f]? = some fn ∧ (fn.name == "runtime.NumGoroutine") = false ∧ fn.body.isNone = false
def FunW (P : Program) (f : FuncId) (ds post : List A) (r : A) : Prop := Body P f ∧
  ∀ (w : World) (imm S : Set) (vs : List Value), ValsR w imm none ds vs S → Set.dis S imm → (∀ b, imm b → b < w.heap.size) → (∀ b, S b → b < w.heap.size) →
    Calls P f vs.toArray w fun
      | .returned v, w' => ∃ imm' T1 T2, Set.le imm imm' ∧ ValsR w' imm' none post vs T1 ∧ CR w' imm' none r v T2 ∧ Set.dis T1 T2 ∧ Set.dis T1 imm' ∧ Set.dis T2 imm' ∧
          (∀ b, T1 b ∨ T2 b → b < w'.heap.size ∧ (S b ∨ w.heap.size ≤ b)) ∧ (∀ b, imm' b → b < w'.heap.size ∧ (imm b ∨ S b ∨ w.heap.size ≤ b)) ∧
          (∀ b, b < w.heap.size → ¬ S b → w'.heap[b]? = w.heap[b]?) ∧ w.heap.size ≤ w'.heap.size ∧ w'.os = w.os ∧ w'.output = w.output ∧ w'.tape = w.tape ∧ SizesKept w w'
      | .panicked _, _ => False
      | .outgrown, _ => False

theorem Calls.mono' {P : Program} {f : FuncId} {args : Array Value} {w : World} {R R' : Ending → World → Prop} (h : Calls P f args w R) (hr : ∀ e w', R e w' → R' e w') : Calls P f args w R' := fun cs => by
  obtain ⟨e, w', fr, h1, h2⟩ := h cs
  exact ⟨e, w', fr, hr _ _ h1, h2⟩

section
variable {P : Program} {E : TE} {Fn : FuncId → List A → List A → A → Prop} {LW : Code → (Ex → St → Prop) → St → Prop} {w : World} {σ σ1 : St} {Λ : Lam} {Pool imm imm1 : Set} {F1 F : Key → Set}

theorem ValsR.single {x : Option Lam} {cs : List A} {v : Value} {S : Set} (h : ValsR w imm x cs [v] S) : ∃ c, cs = [c] ∧ CR w imm x c v S := by
  match cs with
  | [] => simp only [ValsR] at h
  | [c] => simp only [ValsR] at h; obtain ⟨S1, S2, h1, _, h3, _⟩ := h; exact ⟨c, rfl, h1.mono h3⟩
  | _ :: _ :: _ => simp only [ValsR] at h; obtain ⟨_, _, _, h, _⟩ := h; exact h.elim
theorem ValsR.of_one {x : Option Lam} {c : A} {v : Value} {S : Set} (h : CR w imm x c v S) : ValsR w imm x [c] [v] S := by
  simp only [ValsR]; exact ⟨S, Set.no, h, trivial, Set.le_refl _, Set.no_le _, fun _ _ z => z⟩

theorem Lent.cons {x : A} {c : A} {xs ds : List A} (h : Lent w Λ [x] [c]) (h' : Lent w Λ xs ds) : Lent w Λ (x :: xs) (c :: ds) := by
  cases x <;> cases c <;> simp only [Lent] at h ⊢ <;> first | exact h' | exact ⟨h.1, h'⟩

theorem expoArgs_sound {n : Nat} : ∀ (xs : List A) (ms : List Mode) (us : List Value) (f : List A → Pg) (σ1 : St) (imm1 : Set) (F1 : Key → Set) (K : List W → Prop), Phase σ Λ Pool σ1 w imm1 F1 → ValsR w imm1 (some Λ) xs us Set.no →
      (expoArgs (canon Fn LW) n ms xs f).holds σ1 K → ∃ ws ds imm2 F2 S, (f ds).holds (σ1.upd ws) (fun ws2 => K (ws ++ ws2)) ∧ Phase σ Λ Pool (σ1.upd ws) w imm2 F2 ∧ Set.le imm1 imm2 ∧ ValsR w imm2 none ds us S ∧ Hand F2 imm2 Pool S ∧
    (∀ b, imm2 b → imm1 b ∨ ∃ κ, F1 κ b) ∧ (∀ κ b, F2 κ b → F1 κ b) ∧ (∀ b, S b → ∃ κ, F1 κ b) ∧ Lent w Λ xs ds
  | [], ms, us, f, σ1, imm1, F1, K, hP, hv, hh => by
    cases us with
    | nil => exact ⟨[], [], imm1, F1, Set.no, hh, hP, Set.le_refl _, by simp only [ValsR], Hand.no, fun b hb => .inl hb, fun _ _ h => h, fun _ z => z.elim, by simp only [Lent]⟩
    | cons => simp only [ValsR] at hv
  | x :: xs, ms, [], f, σ1, imm1, F1, K, hP, hv, hh => by simp only [ValsR] at hv
  | x :: xs, ms, u :: us, f, σ1, imm1, F1, K, hP, hv, hh => by
    simp only [ValsR] at hv
    obtain ⟨S1, S2, hx, hv, h1, h2, _⟩ := hv
    replace hx := hx.mono h1
    replace hv := hv.mono h2
    obtain ⟨ws, ds, imm2, F2, S, r1, r2, r3, r4, r5, r6, r7, r8, r9, r10⟩ := expo_sound n _ [x] [u] _ σ1 imm1 F1 Set.no K hP (ValsR.of_one hx) Hand.no hh
    obtain ⟨c, rfl, hc⟩ := ValsR.single r4
    obtain ⟨ws', ds', imm3, F3, S', q1, q2, q3, q4, q5, q6, q7, q8, q9⟩ := expoArgs_sound xs ms.tail us _ (σ1.upd ws) imm2 F2 _ r2 (ValsR.stable r3 (fun _ _ => rfl) _ _ _ _ _ _ (LamLe?.refl _) (Set.le_refl _) (fun _ _ => rfl) hv) r1
    have r6' : ∀ b, imm2 b → imm1 b ∨ ∃ κ, F1 κ b := fun b hb => (r6 b hb).imp id (fun z => z.elim (fun y => y.elim) id)
    have r8' : ∀ b, S b → ∃ κ, F1 κ b := fun b hb => (r8 b hb).elim (fun y => y.elim) id
    have hSS : Set.dis S S' := fun b hb hb2 => by obtain ⟨κ, h⟩ := q8 b hb2; exact r5.dis κ b hb h
    refine ⟨ws ++ ws', c :: ds', imm3, F3, fun b => S b ∨ S' b, by rw [upd_append]; simp only [List.append_assoc]; exact q1, by rw [upd_append]; exact q2, Set.le_trans r3 q3, ?_, ⟨fun κ b hb hb2 => ?_, fun b hb hb2 => ?_, fun b hb => hb.elim (r5.pool b) (q5.pool b)⟩, fun b hb => ?_, fun κ b hb => r7 κ b (q7 κ b hb), fun b hb => ?_, Lent.cons r10 q9⟩
    · simp only [ValsR]
      exact ⟨S, S', CR.stable q3 (fun _ _ => rfl) none none _ _ _ _ trivial (Set.le_refl _) (fun _ _ => rfl) hc, q4, fun b hb => .inl hb, fun b hb => .inr hb, hSS⟩
    · rcases hb with hb | hb
      · exact r5.dis κ b hb (q7 κ b hb2)
      · exact q5.dis κ b hb hb2
    · rcases hb with hb | hb
      · rcases q6 b hb2 with h | ⟨κ, h⟩
        · exact r5.imm b hb h
        · exact r5.dis κ b hb h
      · exact q5.imm b hb hb2
    · rcases q6 b hb with h | ⟨κ, h⟩
      · exact r6' b h
      · exact .inr ⟨κ, r7 κ b h⟩
    · rcases hb with hb | hb
      · exact r8' b hb
      · obtain ⟨κ, h⟩ := q8 b hb; exact ⟨κ, r7 κ b h⟩

theorem Own.size_same {w' : World} {b s s' : Nat} (h : Own w b s) (hk : SizesKept w w') (h' : Own w' b s') : s' = s := by
  obtain ⟨c, e, lo, hi, h1, h2, _⟩ := h
  obtain ⟨c', e', lo', hi', h3, h4, _⟩ := h'
  obtain ⟨c2, e2, fr2, h5, h6⟩ := hk b c e _ h1
  rw [h3] at h5
  cases h5
  omega

theorem Hand.upno {κ : Key} {S : Set} (h : Hand F1 imm Pool S) : Hand (up F1 κ Set.no) imm Pool S :=
  ⟨fun x b hb hx => by
      by_cases ex : x = κ
      · subst ex; rw [up_same] at hx; exact hx.elim
      · rw [up_ne _ _ ex] at hx; exact h.dis x b hb hx, h.imm, h.pool⟩
theorem Hand.up {κ : Key} {S T : Set} (h : Hand F1 imm Pool S) (hd : Set.dis S T) : Hand (Vm.up F1 κ T) imm Pool S :=
  ⟨fun x b hb hx => by
      by_cases ex : x = κ
      · subst ex; rw [up_same] at hx; exact hd b hb hx
      · rw [up_ne _ _ ex] at hx; exact h.dis x b hb hx, h.imm, h.pool⟩

theorem back_sound {w' : World} (hk : SizesKept w w') : ∀ (as ds ps : List A) (us : List Value) (σ1 : St) (F1 : Key → Set) (T : Set) (p : Pg) (K : List W → Prop), Phase σ Λ Pool σ1 w' imm F1 → Lent w Λ as ds → ValsR w imm1 (some Λ) as us Set.no → ValsR w' imm none ps us T → Hand F1 imm Pool T →
      (back (canon Fn LW) as ds ps p).holds σ1 K → ∃ ws F2, p.holds (σ1.upd ws) (fun ws2 => K (ws ++ ws2)) ∧ Phase σ Λ Pool (σ1.upd ws) w' imm F2 ∧ ∀ κ b, F2 κ b → F1 κ b ∨ T b
  | as, ds, ps, us, σ1, F1, T, p, K, hP, hL, hA, hV, hH, hh => by
    unfold back at hh
    split at hh
    · rename_i κ g i n as k rows0 ds k' rows ps
      split at hh
      · rename_i hkk
        subst hkk
        cases us with
        | nil => simp only [ValsR] at hA
        | cons u us =>
          simp only [ValsR] at hA hV
          simp only [Lent] at hL
          obtain ⟨⟨l1, l2, l3, rfl, l5, l6⟩, hL⟩ := hL
          obtain ⟨A1, A2, hA, hAs, a1, a2, _⟩ := hA
          obtain ⟨V1, V2, hV, hVs, v1, v2, v3⟩ := hV
          simp only [CR] at hA hV
          have hr := hA.2.1 l1.symm
          have hH1 := hH.le v1
          have hN : NR w' imm Λ (Λ κ) (.arr g k rows) V1 := by
            obtain ⟨ad, cap, e, hV⟩ := hV
            cases hloc : (Λ κ).loc with
            | gone => exact absurd hloc l5
            | nil =>
              rw [hloc] at hr
              obtain ⟨_, rfl, e2⟩ := hr
              rw [e2] at e
              simp only [Value.slice.injEq] at e
              obtain ⟨rfl, e3, rfl⟩ := e
              have : rows = [] := List.eq_nil_of_length_eq_zero e3.symm
              subst this
              exact ⟨l1, l2, by rw [l3]; rfl, .inl ⟨hloc, rfl⟩⟩
            | at_ b base size =>
              rw [hloc] at hr
              obtain ⟨o, cap', e2, h1, h2, h3, h4⟩ := hr
              rw [e2] at e
              simp only [Value.slice.injEq] at e
              obtain ⟨e4, rfl, rfl⟩ := e
              rcases hV with ⟨e5, _⟩ | ⟨b', o', size', S', e5, q1, q2, q3, q4, q5, q6, q7, q8⟩
              · rw [← e4] at e5; cases e5
              · rw [← e4] at e5
                cases e5
                obtain ⟨l6, l7⟩ := l6 b base size hloc
                have hs := Own.size_same l6 hk q4
                subst hs
                refine ⟨l1, l2, l3, .inr ⟨b, base, _, S', hloc, q1, q2, q3, q4, by rw [← l3, ← l2]; exact l7, ?_⟩⟩
                rcases h4 with h4 | ⟨h4, h5⟩
                · have hl0 : rows.length = 0 := by omega
                  rw [List.eq_nil_of_length_eq_zero hl0]
                  simp only [RowsR]
                · have : o = base := by rw [h4]; simp
                  rw [← this]; exact q8
          have hP2 := hP.set κ (n := .arr g k rows) (S := V1) hH1.upno hN
          obtain ⟨ws, F2, r1, r2, r3⟩ := back_sound hk as ds ps us _ (up F1 κ V1) V2 p _ hP2 hL (hAs.mono a2) hVs ((hH.le v2).up (fun b h1 h2 => v3 b h2 h1)) hh
          refine ⟨.n κ (.arr g k rows) :: ws, F2, r1, r2, fun x b hb => ?_⟩
          rcases r3 x b hb with h | h
          · by_cases ex : x = κ
            · subst ex; rw [up_same] at h; exact .inr (v1 b h)
            · rw [up_ne _ _ ex] at h; exact .inl h
          · exact .inr (v2 b h)
      · exact hh.elim
    · rename_i κ g i off as cells ds cells' ps
      split at hh
      · rename_i hkk
        cases us with
        | nil => simp only [ValsR] at hA
        | cons u us =>
          simp only [ValsR] at hA hV
          simp only [Lent] at hL
          obtain ⟨⟨l1, l2, l3, rfl, rfl, l5, l6⟩, hL⟩ := hL
          obtain ⟨A1, A2, hA, hAs, a1, a2, _⟩ := hA
          obtain ⟨V1, V2, hV, hVs, v1, v2, v3⟩ := hV
          simp only [CR] at hA hV
          have hH1 := hH.le v1
          have hN : NR w' imm Λ (Λ κ) (.box g cells') V1 := by
            obtain ⟨b', o', size', S', e5, q1, q2, q3, q4, q5, q6⟩ := hV
            obtain ⟨b, base, size, hloc, e⟩ := PtrR.at hA l1 l5
            rw [e] at e5
            simp only [Value.pointer.injEq, Option.some.injEq, Addr.mk.injEq, and_true] at e5
            obtain ⟨rfl, rfl⟩ := e5
            obtain ⟨l6, l7⟩ := l6 b base size hloc
            have hs := Own.size_same l6 hk q4
            subst hs
            refine ⟨l1, by rw [l2, hkk], l3, b, base, _, S', hloc, q1, q2, q3, q4, ?_, ?_⟩
            · simpa using q5
            · exact CellsR.any _ _ _ _ _ _ _ (by simpa using q6)
          have hP2 := hP.set κ (n := .box g cells') (S := V1) hH1.upno hN
          obtain ⟨ws, F2, r1, r2, r3⟩ := back_sound hk as ds ps us _ (up F1 κ V1) V2 p _ hP2 hL (hAs.mono a2) hVs ((hH.le v2).up (fun b h1 h2 => v3 b h2 h1)) hh
          refine ⟨.n κ (.box g cells') :: ws, F2, r1, r2, fun x b hb => ?_⟩
          rcases r3 x b hb with h | h
          · by_cases ex : x = κ
            · subst ex; rw [up_same] at h; exact .inr (v1 b h)
            · rw [up_ne _ _ ex] at h; exact .inl h
          · exact .inr (v2 b h)
      · exact hh.elim
    · rename_i cs as es ds fs ps
      cases us with
      | nil => simp only [ValsR] at hA
      | cons u us =>
        simp only [ValsR] at hA hV
        simp only [Lent] at hL
        obtain ⟨A1, A2, hA, hAs, a1, a2, _⟩ := hA
        obtain ⟨V1, V2, hV, hVs, v1, v2, v3⟩ := hV
        simp only [CR] at hA hV
        obtain ⟨vs, rfl, hA⟩ := hA
        obtain ⟨vs', e, hV⟩ := hV
        simp only [Value.agg.injEq] at e
        have e' : vs = vs' := by simpa using congrArg Array.toList e
        subst e'
        obtain ⟨ws, F2, r1, r2, r3⟩ := back_sound hk cs es fs vs _ F1 V1 _ _ hP hL.1 (hA.mono a1) hV (hH.le v1) hh
        obtain ⟨ws', F3, q1, q2, q3⟩ := back_sound hk as ds ps us _ F2 V2 p _ r2 hL.2 (hAs.mono a2) hVs ⟨fun κ b hb hb2 => (r3 κ b hb2).elim (hH.dis κ b (v2 b hb)) (fun z => v3 b z hb), fun b hb => hH.imm b (v2 b hb), fun b hb => hH.pool b (v2 b hb)⟩ r1
        refine ⟨ws ++ ws', F3, by rw [upd_append]; simp only [List.append_assoc]; exact q1, by rw [upd_append]; exact q2, fun x b hb => ?_⟩
        rcases q3 x b hb with h | h
        · exact (r3 x b h).imp id (v1 b)
        · exact .inr (v2 b h)
    · rename_i x as c ds q ps _ _ _
      cases us with
      | nil => simp only [ValsR] at hA
      | cons u us =>
        simp only [ValsR] at hA hV
        obtain ⟨A1, A2, hA, hAs, a1, a2, _⟩ := hA
        obtain ⟨V1, V2, hV, hVs, v1, v2, v3⟩ := hV
        have hL' : Lent w Λ as ds := by
          cases x <;> cases c <;> simp only [Lent] at hL <;> first | exact hL | exact hL.2
        obtain ⟨ws, F2, r1, r2, r3⟩ := back_sound hk as ds ps us _ F1 V2 p _ hP hL' (hAs.mono a2) hVs (hH.le v2) hh
        exact ⟨ws, F2, r1, r2, fun x b hb => (r3 x b hb).imp id (v2 b)⟩
    · exact ⟨[], F1, hh, hP, fun _ _ h => .inl h⟩
  termination_by as => SizeOf.sizeOf as

variable {ρ : Env} {K : List W → Prop} {o : Oper} {a : Act} {Q : Exit → Act → World → Prop}

def Mine (ρ : Env) (w : World) : Set := fun b => b < w.heap.size ∧ (ρ.own0 b ∨ ρ.w0.heap.size ≤ b)

/-- a node made of what is in no node's hand -/
theorem RelX.gain (h : RelX ρ σ a w imm Λ F) {κ : Key} {n : HN} {i : KI} {T : Set} (hg : i.gen = (lkN σ.heap κ.1 κ.2).gen + 1) (hT : Hand F imm (Mine ρ w) T) (hN : NR w imm (up Λ κ i) i n T) :
    RelX ρ (σ.upd1 (.n κ n)) a w imm (up Λ κ i) (up F κ T) ∧ LamLe Λ (up Λ κ i) := by
  have hle : LamLe Λ (up Λ κ i) := by
    intro x
    by_cases ex : x = κ
    · subst ex; rw [up_same]; have := genOf h x; exact ⟨by omega, fun e => by omega⟩
    · rw [up_ne _ _ ex]; exact ⟨Nat.le_refl _, fun _ => .inr rfl⟩
  refine ⟨{ h with slots := fun t => CR.stable (Set.le_refl _) (fun _ _ => rfl) (some Λ) (some _) _ _ _ _ hle (Set.le_refl _) (fun _ z => z.elim) (h.slots t), nodes := fun x => ?_, dis := fun x y hxy => ?_, fimm := fun x => ?_, flt := fun x b hb => ?_ }, hle⟩
  · show NR _ _ _ _ (lkN ((κ, n) :: σ.heap) x.1 x.2) _
    rw [lkN_cons]
    by_cases ex : x = κ
    · subst ex; rw [if_pos rfl, up_same, up_same]; exact hN
    · rw [if_neg ex, up_ne _ _ ex, up_ne _ _ ex]; exact (h.nodes x).le hle
  · by_cases ex : x = κ
    · subst ex; rw [up_same, up_ne _ _ (fun z => hxy z.symm)]; exact hT.dis y
    · rw [up_ne _ _ ex]
      by_cases ey : y = κ
      · subst ey; rw [up_same]; exact fun b h1 h2 => hT.dis x b h2 h1
      · rw [up_ne _ _ ey]; exact h.dis x y hxy
  · by_cases ex : x = κ
    · subst ex; rw [up_same]; exact hT.imm
    · rw [up_ne _ _ ex]; exact h.fimm x
  · by_cases ex : x = κ
    · subst ex; rw [up_same] at hb; exact hT.pool b hb
    · rw [up_ne _ _ ex] at hb; exact h.flt x b hb

def In (ρ : Env) (a : Act) (w : World) (imm : Set) (σ : St) (Λ : Lam) (F : Key → Set) (T : Set) (us : List Value) (f : List A → Pg) (K : List W → Prop) : Prop :=
  ∃ ws as Λ' F', (f as).holds (σ.upd ws) (fun ws2 => K (ws ++ ws2)) ∧ RelX ρ (σ.upd ws) a w imm Λ' F' ∧ LamLe Λ Λ' ∧ ValsR w imm (some Λ') as us Set.no ∧ (∀ κ b, F' κ b → F κ b ∨ T b)

theorem LamLe.trans {Λ Λ' Λ2 : Lam} (h : LamLe Λ Λ') (h' : LamLe Λ' Λ2) : LamLe Λ Λ2 := fun κ => by
  refine ⟨Nat.le_trans (h κ).1 (h' κ).1, fun e => ?_⟩
  have h1 := (h κ).1
  have h2 := (h' κ).1
  rcases (h' κ).2 (by omega) with h3 | h3
  · exact .inl h3
  · rw [h3]
    exact (h κ).2 (by omega)

theorem imp_sound (d : Nat) : ∀ (n j : Nat) (xs : List A) (us : List Value) (f : List A → Pg) (σ : St) (Λ : Lam) (F : Key → Set) (T : Set) (K : List W → Prop), RelX ρ σ a w imm Λ F → ValsR w imm none xs us T → Hand F imm (Mine ρ w) T →
      (imp (canon Fn LW) d n j xs f).holds σ K → In ρ a w imm σ Λ F T us f K
  | 0, j, xs, us, f, σ, Λ, F, T, K, h, hv, hH, hh => by cases xs <;> exact hh.elim
  | n + 1, j, [], us, f, σ, Λ, F, T, K, h, hv, hH, hh => by
    cases us with
    | nil => exact ⟨[], [], Λ, F, hh, h, LamLe.refl Λ, by simp only [ValsR], fun _ _ z => .inl z⟩
    | cons => simp only [ValsR] at hv
  | n + 1, j, x :: xs, [], f, σ, Λ, F, T, K, h, hv, hH, hh => by simp only [ValsR] at hv
  | n + 1, j, x :: xs, u :: us, f, σ, Λ, F, T, K, h, hv, hH, hh => by
    simp only [ValsR] at hv
    obtain ⟨T1, T2, hx, hv, h1, h2, h12⟩ := hv
    have go : ∀ (c : A) (ws0 : List W) (j' : Nat) (Λ' : Lam) (F' : Key → Set), RelX ρ (σ.upd ws0) a w imm Λ' F' → LamLe Λ Λ' → CR w imm (some Λ') c u Set.no → (∀ κ b, F' κ b → F κ b ∨ T1 b) →
        (imp (canon Fn LW) d n j' xs fun as => f (c :: as)).holds (σ.upd ws0) (fun ws2 => K (ws0 ++ ws2)) → In ρ a w imm σ Λ F T (u :: us) f K := by
      intro c ws0 j' Λ' F' hr hl hc hF hh
      have hH2 : Hand F' imm (Mine ρ w) T2 := ⟨fun κ b hb hb2 => by
          rcases hF κ b hb2 with h' | h'
          · exact hH.dis κ b (h2 b hb) h'
          · exact h12 b h' hb, (hH.le h2).imm, (hH.le h2).pool⟩
      obtain ⟨ws, as, Λ2, F2, r1, r2, r3, r4, r5⟩ := imp_sound d n j' xs us _ (σ.upd ws0) Λ' F' T2 _ hr hv hH2 hh
      refine ⟨ws0 ++ ws, c :: as, Λ2, F2, by rw [upd_append]; simp only [List.append_assoc]; exact r1, by rw [upd_append]; exact r2, hl.trans r3, ?_, fun κ b hb => ?_⟩
      · simp only [ValsR]
        exact ⟨Set.no, Set.no, CR.stable (Set.le_refl _) (fun _ _ => rfl) (some Λ') (some Λ2) _ _ _ _ r3 (Set.le_refl _) (fun _ _ => rfl) hc, r4, Set.le_refl _, Set.le_refl _, Set.no_dis _⟩
      · rcases r5 κ b hb with h' | h'
        · exact (hF κ b h').imp id (h1 b)
        · exact .inr (h2 b h')
    have keep : CR w imm (some Λ) x u Set.no → (imp (canon Fn LW) d n j xs fun as => f (x :: as)).holds σ K → In ρ a w imm σ Λ F T (u :: us) f K :=
      fun hc hh => go x [] j Λ F h (LamLe.refl Λ) hc (fun _ _ z => .inl z) hh
    cases x with
    | lit v => exact keep (by simp only [CR] at hx ⊢; exact hx) hh
    | emp => exact keep (by simp only [CR] at hx ⊢; exact hx) hh
    | tree rows => exact keep (by simp only [CR] at hx ⊢; exact hx) hh
    | iptr r off => exact keep (by simp only [CR] at hx ⊢; exact hx) hh
    | hole => exact keep (by simp only [CR]) hh
    | clo g cs => exact keep ((CR.any w imm (some Λ) _ _ _ (show CR w imm none (.clo g cs) u Set.no by simp only [CR] at hx ⊢; exact hx))) hh
    | ref => exact hh.elim
    | mptr => exact hh.elim
    | optr => exact hh.elim
    | inl k rows =>
      simp only [CR] at hx
      obtain ⟨ad, cap, e, hx⟩ := hx
      let g := (lkN σ.heap (d, j).1 (d, j).2).gen + 1
      have hex : ∃ loc : Loc, loc ≠ .gone ∧ (∀ Λ', NR w imm Λ' ⟨g, loc, k, rows.length⟩ (.arr g k rows) T1) ∧ RefR ⟨g, loc, k, rows.length⟩ g 0 rows.length u := by
        rcases hx with ⟨rfl, rfl, rfl⟩ | ⟨b', o', size, S', rfl, g1, g2, g3, g4, g5, g6, g7, g8⟩
        · exact ⟨.nil, by simp, fun _ => ⟨rfl, rfl, rfl, .inl ⟨rfl, rfl⟩⟩, Nat.le_refl _, fun _ => ⟨rfl, rfl, e⟩, _, _, _, e⟩
        · refine ⟨.at_ b' o' size, by simp, fun _ => ?_, Nat.le_refl _, fun _ => ⟨o', cap, e, g7, by simp, g6, .inr ⟨by simp, by simpa using g5⟩⟩, _, _, _, e⟩
          refine ⟨rfl, rfl, rfl, .inr ⟨b', o', size, S', rfl, g1, g2, g3, g4, ?_, g8⟩⟩
          have := Nat.mul_le_mul_right k g7
          omega
      obtain ⟨loc, _, hN, hR⟩ := hex
      obtain ⟨hr, hl⟩ := h.gain (κ := (d, j)) (n := .arr g k rows) (i := ⟨g, loc, k, rows.length⟩) rfl (hH.le h1) (hN _)
      refine go (.ref (d, j) g 0 rows.length) [.n (d, j) (.arr g k rows)] (j + 1) _ _ hr hl ?_ (fun κ b hb => ?_) hh
      · simp only [CR, up_same]; exact hR
      · by_cases ex : κ = (d, j)
        · subst ex; rw [up_same] at hb; exact .inr hb
        · rw [up_ne _ _ ex] at hb; exact .inl hb
    | obox cells =>
      simp only [CR] at hx
      obtain ⟨b', o', size, S', e, g1, g2, g3, g4, g5, g6⟩ := hx
      let g := (lkN σ.heap (d, j).1 (d, j).2).gen + 1
      obtain ⟨hr, hl⟩ := h.gain (κ := (d, j)) (n := .box g cells) (i := ⟨g, .at_ b' o' size, cells.length, 1⟩) rfl (hH.le h1) (by
        exact ⟨rfl, rfl, rfl, b', o', size, S', rfl, g1, g2, g3, g4, g5, CellsR.any _ _ _ _ _ _ _ g6⟩)
      refine go (.mptr (d, j) g 0 0) [.n (d, j) (.box g cells)] (j + 1) _ _ hr hl ?_ (fun κ b hb => ?_) hh
      · simp only [CR, up_same, PtrR]
        exact ⟨Nat.le_refl _, fun _ => by rw [e]; simp, _, e⟩
      · by_cases ex : κ = (d, j)
        · subst ex; rw [up_same] at hb; exact .inr hb
        · rw [up_ne _ _ ex] at hb; exact .inl hb
    | agg cs =>
      simp only [CR] at hx
      obtain ⟨vs, rfl, hx⟩ := hx
      obtain ⟨ws, as, Λ2, F2, r1, r2, r3, r4, r5⟩ := imp_sound d n j cs vs _ σ Λ F T1 _ h hx (hH.le h1) hh
      exact go (.agg as) ws _ Λ2 F2 r2 r3 (by simp only [CR]; exact ⟨vs, rfl, r4⟩) r5 r1
    | tup cs =>
      simp only [CR] at hx
      obtain ⟨vs, rfl, hx⟩ := hx
      obtain ⟨ws, as, Λ2, F2, r1, r2, r3, r4, r5⟩ := imp_sound d n j cs vs _ σ Λ F T1 _ h hx (hH.le h1) hh
      exact go (.tup as) ws _ Λ2 F2 r2 r3 (by simp only [CR]; exact ⟨vs, rfl, r4⟩) r5 r1

/-- the nodes as they are known when the call is over -/
def seen (Λ : Lam) (σ : St) : Lam := fun κ => match lkN σ.heap κ.1 κ.2 with
  | .dead _ => { Λ κ with loc := .gone }
  | _ => Λ κ
theorem seen_le (Λ : Lam) (σ : St) : LamLe Λ (seen Λ σ) := fun κ => by
  unfold seen
  split
  · exact ⟨Nat.le_refl _, fun _ => .inl rfl⟩
  · exact ⟨Nat.le_refl _, fun _ => .inr rfl⟩
theorem Phase.seen {w' : World} (h : Phase σ Λ Pool σ1 w' imm F) (κ : Key) : NR w' imm (seen Λ σ1) (seen Λ σ1 κ) (lkN σ1.heap κ.1 κ.2) (F κ) := by
  have hn := h.nodes κ
  have hl := seen_le Λ σ1
  unfold Vm.seen at hl ⊢
  generalize hnd : lkN σ1.heap κ.1 κ.2 = nd at hn ⊢
  rcases hn with rfl | hn
  · exact ⟨rfl, rfl⟩
  · cases nd with
    | dead g => exact ⟨hn.1, rfl⟩
    | _ => exact hn.le hl

theorem call_sound (h : RelX ρ σ a w imm Λ F) (hd : ∀ t, o.dst = some t → t < ρ.n) {f : FuncId} {as : List A} {us : List Value} (hv : ValsR w imm (some Λ) as us Set.no)
    (hex : Body P f → (execOp a.eval o).run P w = .ok (.enter f us.toArray) w) (hh : (callPg E (canon (FunW P) LW) o.dst f as).holds σ K) : Comes1 P ρ σ K o a w Q := by
  have hP0 : Phase σ Λ (fun b => ∃ κ, F κ b) σ w imm F := ⟨fun _ => rfl, fun κ => .inr (h.nodes κ), h.dis, h.fimm, fun κ b hb => ⟨κ, hb⟩⟩
  obtain ⟨ws, ds, imm1, F1, S, r1, r2, r3, r4, r5, r6, r7, r8, r9⟩ := expoArgs_sound _ _ us _ σ imm F _ hP0 hv hh
  obtain ⟨post, r, hF, hk⟩ := r1
  have him1 : ∀ b, imm1 b → b < w.heap.size := fun b hb => by
    rcases r6 b hb with h' | ⟨κ, h'⟩
    · exact (h.immlt b h').1
    · exact (h.flt κ b h').1
  have hS1 : ∀ b, S b → b < w.heap.size := fun b hb => by obtain ⟨κ, h'⟩ := r8 b hb; exact (h.flt κ b h').1
  refine .inl ?_
  simp only [Oper.wp, hex hF.1, Oper.upon]
  refine Calls.mono' (hF.2 w imm1 S us r4 r5.imm him1 hS1) ?_
  intro e w' hR
  cases e with
  | panicked ch => exact hR.elim
  | outgrown => exact hR.elim
  | returned v =>
    obtain ⟨imm2, T1, T2, i1, i2, i3, i4, i5, i6, i7, i8, i9, i10, i11, i12, i13, i14⟩ := hR
    have hFlt : ∀ κ b, F1 κ b → b < w.heap.size := fun κ b hb => (h.flt κ b (r7 κ b hb)).1
    have hFi : ∀ κ, Set.dis (F1 κ) imm2 := fun κ b hb hi => by
      rcases (i8 b hi).2 with h' | h' | h'
      · exact r2.fimm κ b hb h'
      · exact r5.dis κ b h' hb
      · have := hFlt κ b hb; omega
    have hP2 : Phase σ Λ (fun b => (∃ κ, F κ b) ∨ (w.heap.size ≤ b ∧ b < w'.heap.size)) (σ.upd ws) w' imm2 F1 :=
      ⟨r2.slots, fun κ => (r2.nodes κ).imp id (fun hN => NR.stable i1 (fun b hb => i9 b (him1 b hb) (fun hs => r5.imm b hs hb)) (fun b hb => i9 b (hFlt κ b hb) (fun hs => r5.dis κ b hs hb)) (LamLe.refl Λ) hN), r2.dis, hFi, fun κ b hb => .inl ⟨κ, r7 κ b hb⟩⟩
    have hH : ∀ T : Set, (∀ b, T b → b < w'.heap.size ∧ (S b ∨ w.heap.size ≤ b)) → Set.dis T imm2 → Hand F1 imm2 (fun b => (∃ κ, F κ b) ∨ (w.heap.size ≤ b ∧ b < w'.heap.size)) T := fun T hT hTi =>
      ⟨fun κ b hb hb2 => by
        rcases (hT b hb).2 with h' | h'
        · exact r5.dis κ b h' hb2
        · have := hFlt κ b hb2; omega, hTi, fun b hb => by
        rcases hT b hb with ⟨h1, h' | h'⟩
        · exact .inl (r8 b h')
        · exact .inr ⟨h', h1⟩⟩
    have hT1 := hH T1 (fun b hb => i7 b (.inl hb)) i5
    have hT2 := hH T2 (fun b hb => i7 b (.inr hb)) i6
    obtain ⟨ws2, F2, q1, q2, q3⟩ := back_sound i14 as ds post us _ F1 T1 _ _ hP2 r9 hv i2 hT1 hk
    have hR2 : RelX ρ ((σ.upd ws).upd ws2) a w' imm2 (seen Λ ((σ.upd ws).upd ws2)) F2 := by
      refine h.step q2.slots (Set.le_trans r3 i1) (fun b hb => i9 b (h.immlt b hb).1 (fun hs => r5.imm b hs (r3 b hb))) i10 (fun b hb hno => i9 b hb (fun hs => hno (r8 b hs))) (seen_le _ _) q2.seen q2.dis q2.fimm (fun κ b hb => q2.pool κ b hb) (fun b hb => ?_) ⟨i11, i12, i13, i14⟩
      obtain ⟨h1, h' | h' | h'⟩ := i8 b hb
      · exact (r6 b h').imp id .inl
      · exact .inr (.inl (r8 b h'))
      · exact .inr (.inr ⟨h', h1⟩)
    cases hod : o.dst with
    | none =>
      rw [hod] at q1
      exact ⟨_, q1, imm2, _, F2, by rw [List.append_nil, upd_append]; exact hR2⟩
    | some d =>
      rw [hod] at q1
      have hHm : Hand F2 imm2 (Mine ρ w') T2 := ⟨fun κ b hb hb2 => by
          rcases q3 κ b hb2 with h' | h'
          · exact hT2.dis κ b hb h'
          · exact i4 b h' hb, i6, fun b hb => by
          refine ⟨(i7 b (.inr hb)).1, ?_⟩
          rcases (i7 b (.inr hb)).2 with h' | h'
          · obtain ⟨κ, h'⟩ := r8 b h'; exact (h.flt κ b h').2
          · exact .inr (Nat.le_trans h.grow h')⟩
      obtain ⟨ws3, as3, Λ3, F3, p1, p2, p3, p4, p5⟩ := imp_sound d 12 0 [r] [v] _ _ _ F2 T2 _ hR2 (ValsR.of_one i3) hHm q1
      obtain ⟨c, rfl, hc⟩ := ValsR.single p4
      refine ⟨_, p1, imm2, Λ3, F3, ?_⟩
      have := p2.put (d := some d) (fun t ht => by cases ht; exact hd d hod) hc
      simp only [upd_append] at this ⊢
      exact this
end
end Go.Vm
/- All operations. -/
namespace Go.Vm
section
variable {P : Program} {E : TE} {LW : Code → (Ex → St → Prop) → St → Prop} {w : World} {σ : St} {Λ : Lam} {imm : Set} {F : Key → Set} {ρ : Env} {K : List W → Prop} {o : Oper} {a : Act} {Q : Exit → Act → World → Prop}

theorem ValsR.append {x : Option Lam} : ∀ {cs ds : List A} {vs us : List Value}, ValsR w imm x cs vs Set.no → ValsR w imm x ds us Set.no → ValsR w imm x (cs ++ ds) (vs ++ us) Set.no :=
  fun h h' => ValsR.join h h' (Set.le_refl _) (Set.le_refl _) (Set.no_dis _)

theorem run_callFunc {f : FuncId} (h : Body P f) (args : Array Value) : (callFunc f args).run P w = .ok (.enter f args) w := by
  obtain ⟨fn, h1, h2, h3⟩ := h
  have h2' : ¬ fn.name = "runtime.NumGoroutine" := by simpa using h2
  have h3' : ¬ fn.body = none := by intro e; rw [e] at h3; simp at h3
  simp [callFunc, h1, h2', h3']

theorem op_sound (hE : EOk P E) (h : RelX ρ σ a w imm Λ F) (hd : ∀ t, o.dst = some t → t < ρ.n) (hh : (opPg E (canon (FunW P) LW) o.dst o.op).holds σ K) : Comes1 P ρ σ K o a w Q := by
  cases hop : o.op with
  | move x => rw [hop] at hh; exact move_sound h hd (.inl hop) hh
  | assign x => rw [hop] at hh; exact move_sound h hd (.inr hop) hh
  | pick c x y => rw [hop] at hh; exact pick_sound h hd hop hh
  | alloc t => rw [hop] at hh; exact alloc_sound hE h hd hop hh
  | box t x => rw [hop] at hh; exact boxop_sound hE h hd hop hh
  | build t ps => rw [hop] at hh; exact build_sound hE h hd hop hh
  | buildSlice t n ps => rw [hop] at hh; exact buildSlice_sound hE h hd hop hh
  | load t x => rw [hop] at hh; exact load_sound hE h hd hop hh
  | store t x y => rw [hop] at hh; exact store_sound hE h hop hh
  | nilCheck x => rw [hop] at hh; exact nilCheck_sound h hd hop hh
  | binOp op t x y t' => rw [hop] at hh; exact bin_sound hE h hd hop hh
  | unOp op t x => rw [hop] at hh; exact un_sound h hd hop hh
  | convert s t x => rw [hop] at hh; exact conv_sound hE h hd hop hh
  | makeFunc f first cap =>
    rw [hop] at hh
    cases f with
    | func f => exact makeFunc_sound h hd hop hh
    | _ => exact hh.elim
  | makeSlice t l c => rw [hop] at hh; exact makeSlice_sound hE h hd hop hh
  | slice t x l r m => rw [hop] at hh; exact slice_sound hE h hd hop hh
  | fieldAddr s x f => rw [hop] at hh; exact field_sound hE h hd hop hh
  | indexAddr t x i => rw [hop] at hh; exact index_sound hE h hd hop hh
  | index t x i => rw [hop] at hh; exact sindex_sound hE h hd hop hh
  | extract x i => rw [hop] at hh; exact extract_sound h hd hop hh
  | call c =>
    rw [hop] at hh
    simp only [opPg] at hh
    split at hh
    · rename_i f hcal
      obtain ⟨f', hf, hh1⟩ := h.opd hh
      clear hh
      obtain ⟨ys, hys, hh2⟩ := h.opds hh1
      clear hh1
      split at hh2
      · rename_i g cs
        simp only [CR] at hf
        obtain ⟨vs, hfv, hcs⟩ := hf
        refine call_sound h hd (ValsR.append hys hcs) (fun hb => ?_) hh2
        simp only [execOp, hop, resolve, hcal, Sem.run_bind, Deferred.ofValue, hfv, Sem.run_pure, Result.andThen_ok, invoke, Array.empty_append]
        rw [show c.args.map a.eval ++ vs.toArray = (c.args.toList.map a.eval ++ vs).toArray from Array.ext' (by simp)]
        exact run_callFunc hb _
      · exact hh2.elim
    · rename_i hcal
      split at hh
      · rename_i x t hx ht; exact len_sound hE h hd hop hcal hx ht hh
      · exact hh.elim
    · rename_i hcal
      split at hh
      · rename_i x y t s hx ht
        split at hh
        · rename_i hs; exact append_sound hE h hd hop hcal hx ht hs hh
        · exact hh.elim
      · exact hh.elim
    · rename_i hcal
      split at hh
      · rename_i x y hx; exact minmax_sound (mx := false) h hd hop hx hcal hh
      · exact hh.elim
    · rename_i hcal
      split at hh
      · rename_i x y hx; exact minmax_sound (mx := true) h hd hop hx hcal hh
      · exact hh.elim
    · exact hh.elim
  | _ => rw [hop] at hh; exact hh.elim
end
end Go.Vm
/- Regions. -/
namespace Go.Vm
section
variable {P : Program} {E : TE} {LW : Code → (Ex → St → Prop) → St → Prop} {w : World} {σ : St} {Λ : Lam} {imm : Set} {F : Key → Set} {ρ : Env} {o : Oper} {a : Act} {Q : Exit → Act → World → Prop}

theorem RelX.slotv (h : RelX ρ σ a w imm Λ F) {g : Nat} {b : Bool} (hlt : g < ρ.n) (hg : lkS σ.slots g = .lit (.bool b)) : a.tmps[g]? = some (.bool b) := by
  have := h.slots g
  have hn := h.nlt
  unfold Vm.slotv at this
  rw [if_pos (by omega)] at this
  rw [hg] at this
  have h2 := CR_lit this
  rw [Array.getD_eq_getD_getElem?] at h2
  cases hq : a.tmps[g]? with
  | none => rw [hq] at h2; simp [undef] at h2
  | some v => rw [hq] at h2; simp at h2; rw [h2]
theorem Rel.same {σ' : St} (h : Rel ρ σ a w) (hs : ∀ t, lkS σ'.slots t = lkS σ.slots t) (hn : ∀ κ : Key, lkN σ'.heap κ.1 κ.2 = lkN σ.heap κ.1 κ.2) : Rel ρ σ' a w := by
  obtain ⟨imm, Λ, F, h⟩ := h
  exact ⟨imm, Λ, F, h.congr hs hn⟩
theorem Rel.unset (h : Rel ρ σ a w) {d : Option Nat} (hd : ∀ t, d = some t → t < ρ.n) : Rel ρ (σ.upd (put d unset)) (a.put d undef) w := by
  obtain ⟨imm, Λ, F, h⟩ := h
  exact ⟨imm, Λ, F, h.put hd (by simp only [CR]; rfl)⟩
theorem RelX.slotu (h : RelX ρ σ a w imm Λ F) {g : Nat} {u : Array Value} (hlt : g < ρ.n) (hg : lkS σ.slots g = .lit (.tuple u)) : a.tmps[g]? = some (.tuple u) := by
  have := h.slots g
  have hn := h.nlt
  unfold Vm.slotv at this
  rw [if_pos (by omega)] at this
  rw [hg] at this
  have h2 := CR_lit this
  have hs := h.size
  rw [Array.getD_eq_getD_getElem?] at h2
  have hq : a.tmps[g]? = some a.tmps[g] := by simp [hs, hlt]
  rw [hq] at h2 ⊢
  simp at h2
  rw [h2]
theorem wanted_not {ops : Array Oper} {j g : Nat} {want : Bool} {u : Array Value} (hgd : o.guard = some (j, want)) (hj : (ops.toList[j]?).bind (·.dst) = some g) (hv : a.tmps[g]? = some (.tuple u)) : Region.wanted o (yielded ops a.tmps) = false := by
  have hy : yielded ops a.tmps j = none := by
    simp only [yielded]
    rw [← Array.getElem?_toList, hj]
    simp [hv]
  simp only [Region.wanted, hgd, hy]
  rfl
theorem guard_const {g : Nat} {b : Bool} (hg : lkS σ.slots g = .lit (.bool b)) (t : Nat) : lkS (σ.upd1 (.s g (.lit (.bool b)))).slots t = lkS σ.slots t := by
  show lkS ((g, _) :: σ.slots) t = _
  rw [lkS_cons]
  by_cases e : t = g
  · subst e; rw [if_pos rfl, hg]
  · rw [if_neg e]

theorem wanted_some {ops : Array Oper} {j g : Nat} {want b : Bool} (hgd : o.guard = some (j, want)) (hj : (ops.toList[j]?).bind (·.dst) = some g) (hv : a.tmps[g]? = some (.bool b)) : Region.wanted o (yielded ops a.tmps) = (b == want) := by
  have hy : yielded ops a.tmps j = some b := by
    simp only [yielded]
    rw [← Array.getElem?_toList, hj]
    simp [hv]
  simp only [Region.wanted, hgd, hy]
  cases b <;> cases want <;> rfl

theorem guard_lt {ops : Array Oper} (hd : ∀ o ∈ ops.toList, ∀ t, o.dst = some t → t < ρ.n) {j g : Nat} (hj : (ops.toList[j]?).bind (·.dst) = some g) : g < ρ.n := by
  rw [Option.bind_eq_some_iff] at hj
  obtain ⟨o, h1, h2⟩ := hj
  exact hd o (List.mem_of_getElem? h1) g h2

theorem wpOps_sound (hE : EOk P E) {ops : Array Oper} {K : St → Prop} (hK : ∀ a w σ, K σ → Rel ρ σ a w → Q .normal a w) : ∀ (l : List Oper) (σ : St) (a : Act) (w : World), (∀ o ∈ ops.toList, ∀ t, o.dst = some t → t < ρ.n) → (∀ o ∈ l, o ∈ ops.toList) →
    Vm.wpOps E (canon (FunW P) LW) ops.toList K l σ → Rel ρ σ a w → wpList P ops Q l a w
  | [], σ, a, w, _, _, hh, h => hK a w σ hh h
  | o :: rest, σ, a, w, hd, hl, hh, h => by
    have ih := wpOps_sound hE (ops := ops) hK rest
    have hl' : ∀ o ∈ rest, o ∈ ops.toList := fun o ho => hl o (List.mem_cons_of_mem _ ho)
    have hdo := hd o (hl o List.mem_cons_self)
    have step : ∀ (σ1 : St), Rel ρ σ1 a w → (opPg E (canon (FunW P) LW) o.dst o.op).holds σ1 (fun ws => Vm.wpOps E (canon (FunW P) LW) ops.toList K rest (σ1.upd ws)) → o.wp P a w (wpList P ops Q rest) Q ∨ (o.asks P a w ∧ LetsOut Q) := by
      rintro σ1 ⟨imm, Λ, F, h⟩ hh
      exact (op_sound hE h hdo hh).imp (Oper.wp_mono fun a w ⟨ws, h1, h2⟩ => ih _ a w hd hl' h1 h2) id
    simp only [Vm.wpOps] at hh
    simp only [wpList]
    split at hh
    · rename_i hgd
      have hw : Region.wanted o (yielded ops a.tmps) = true := by simp [Region.wanted, hgd]
      rw [if_pos hw]
      exact step σ h hh
    · rename_i j want hgd
      split at hh
      · exact hh.elim
      · rename_i g hj
        split at hh
        · rename_i b hg
          obtain ⟨imm, Λ, F, hX⟩ := h
          have hw := wanted_some hgd hj (hX.slotv (guard_lt hd hj) hg)
          rw [hw]
          have hole := fun hh => ih _ _ _ hd hl' hh (Rel.unset ⟨imm, Λ, F, hX⟩ hdo)
          cases want <;> cases b
          · exact (if_pos (c := (false == false) = true) rfl).symm ▸ step σ ⟨imm, Λ, F, hX⟩ hh
          · exact hole hh
          · exact hole hh
          · exact step σ ⟨imm, Λ, F, hX⟩ hh
        · rename_i u hg
          obtain ⟨imm, Λ, F, hX⟩ := h
          rw [wanted_not hgd hj (hX.slotu (guard_lt hd hj) hg)]
          exact ih _ _ _ hd hl' hh (Rel.unset ⟨imm, Λ, F, hX⟩ hdo)
        · exact hh.elim

/-! ### regions whose order is drawn -/

def atL (σ : St) : L → A ⊕ HN
  | .s t => .inl (lkS σ.slots t)
  | .n κ => .inr (lkN σ.heap κ.1 κ.2)
/-- the states answer alike -/
def Like (σ τ : St) : Prop := ∀ x, atL σ x = atL τ x

theorem L.is_iff : ∀ x y : L, x.is y = true ↔ x = y
  | .s t, .s u => by simp [L.is]
  | .n κ, .n κ' => by
    obtain ⟨a, b⟩ := κ
    obtain ⟨c, d⟩ := κ'
    simp [L.is]
  | .s _, .n _ => by simp [L.is]
  | .n _, .s _ => by simp [L.is]
theorem hasL_iff (x : L) : ∀ l, hasL x l = true ↔ x ∈ l
  | [] => by simp [hasL]
  | y :: l => by
    simp only [hasL]
    by_cases h : x.is y = true
    · rw [if_pos h]; simp [(L.is_iff x y).1 h]
    · rw [if_neg h, hasL_iff x l]
      have : x ≠ y := fun e => h ((L.is_iff x y).2 e)
      simp [this]
theorem apartL_iff : ∀ l l', apartL l l' = true ↔ ∀ x ∈ l, x ∉ l'
  | [], l' => by simp [apartL]
  | x :: l, l' => by
    simp only [apartL]
    by_cases h : hasL x l' = true
    · rw [if_pos h]; simp [(hasL_iff x l').1 h]
    · rw [if_neg h, apartL_iff l l']
      have : x ∉ l' := fun e => h ((hasL_iff x l').2 e)
      simp [this]
theorem hasN_iff (x : Nat) : ∀ l, hasN x l = true ↔ x ∈ l
  | [] => by simp [hasN]
  | y :: l => by
    simp only [hasN]
    by_cases h : Nat.beq x y = true
    · rw [if_pos h]; simp [Nat.eq_of_beq_eq_true h]
    · rw [if_neg h, hasN_iff x l]
      have : x ≠ y := fun e => h (by subst e; exact Nat.beq_refl x)
      simp [this]

instance : DecidableEq L := fun x y => if h : x.is y = true then .isTrue ((L.is_iff x y).1 h) else .isFalse (fun e => h ((L.is_iff x y).2 e))

theorem atL_upd1 (σ : St) (v : W) (x : L) : atL (σ.upd1 v) x = if v.loc = x then (match v with | .s _ a => .inl a | .n _ h => .inr h) else atL σ x := by
  cases v with
  | s t a =>
    cases x with
    | s u =>
      show Sum.inl (lkS ((t, a) :: σ.slots) u) = _
      rw [lkS_cons]
      simp only [W.loc, L.s.injEq, atL]
      by_cases h : u = t
      · subst h; simp
      · rw [if_neg h, if_neg (fun e => h e.symm)]
    | n κ => simp only [W.loc, reduceCtorEq, if_false]; rfl
  | n κ h =>
    cases x with
    | s u => simp only [W.loc, reduceCtorEq, if_false]; rfl
    | n κ' =>
      show Sum.inr (lkN ((κ, h) :: σ.heap) κ'.1 κ'.2) = _
      rw [lkN_cons]
      simp only [W.loc, L.n.injEq, atL]
      by_cases e : κ' = κ
      · subst e; simp
      · rw [if_neg e, if_neg (fun e' => e e'.symm)]
theorem atL_upd_agree {x : L} : ∀ (ws : List W) {σ τ : St}, atL σ x = atL τ x → atL (σ.upd ws) x = atL (τ.upd ws) x
  | [], _, _, h => h
  | v :: ws, σ, τ, h => atL_upd_agree ws (by rw [atL_upd1, atL_upd1, h])
theorem atL_upd_out {x : L} : ∀ (ws : List W) {σ : St}, x ∉ locs ws → atL (σ.upd ws) x = atL σ x
  | [], _, _ => rfl
  | v :: ws, σ, h => by
    simp only [locs, List.mem_cons, not_or] at h
    show atL ((σ.upd1 v).upd ws) x = _
    rw [atL_upd_out ws h.2, atL_upd1, if_neg (fun e => h.1 e.symm)]
theorem atL_upd_in {x : L} : ∀ (ws : List W) {σ τ : St}, x ∈ locs ws → atL (σ.upd ws) x = atL (τ.upd ws) x
  | [], _, _, h => by simp [locs] at h
  | v :: ws, σ, τ, h => by
    show atL ((σ.upd1 v).upd ws) x = atL ((τ.upd1 v).upd ws) x
    by_cases h' : x ∈ locs ws
    · exact atL_upd_in ws h'
    · simp only [locs, List.mem_cons] at h
      rw [atL_upd_out ws h', atL_upd_out ws h', atL_upd1, atL_upd1]
      have : v.loc = x := (h.resolve_right h').symm
      rw [if_pos this, if_pos this]
theorem Like.upd {σ τ : St} (h : Like σ τ) (ws : List W) : Like (σ.upd ws) (τ.upd ws) := fun x => atL_upd_agree ws (h x)
theorem upd_comm {σ : St} {ws ws' : List W} (h : ∀ x ∈ locs ws, x ∉ locs ws') : Like ((σ.upd ws).upd ws') ((σ.upd ws').upd ws) := fun x => by
  by_cases h1 : x ∈ locs ws
  · rw [atL_upd_out ws' (h x h1)]
    exact atL_upd_in ws h1
  · rw [atL_upd_out ws h1]
    exact atL_upd_agree ws' (atL_upd_out ws h1)

/-- one way through a program: what is read, what is written -/
inductive Run : Pg → St → List L → List W → Prop
  | done (ws : List W) (σ : St) : Run (.done ws) σ [] ws
  | gs {t : Nat} {f : A → Pg} {σ : St} {R : List L} {ws : List W} : Run (f (lkS σ.slots t)) σ R ws → Run (.gs t f) σ (.s t :: R) ws
  | gn {κ : Key} {f : HN → Pg} {σ : St} {R : List L} {ws : List W} : Run (f (lkN σ.heap κ.1 κ.2)) σ R ws → Run (.gn κ f) σ (.n κ :: R) ws
  | need {φ : Prop} {p : Pg} {σ : St} {R : List L} {ws : List W} : φ → Run p σ R ws → Run (.need φ p) σ R ws
  | ex {α : Type} {f : α → Pg} {σ : St} {R : List L} {ws : List W} (x : α) : Run (f x) σ R ws → Run (.ex α f) σ R ws
  | yes {p q : Pg} {σ : St} {R : List L} {ws : List W} : Run p σ R ws → Run (.br true p q) σ R ws
  | no {p q : Pg} {σ : St} {R : List L} {ws : List W} : Run q σ R ws → Run (.br false p q) σ R ws
  | wr {ws1 : List W} {p : Pg} {σ : St} {R : List L} {ws : List W} : Run p (σ.upd ws1) R ws → Run (.wr ws1 p) σ R (ws1 ++ ws)

theorem Run.holds {p : Pg} {σ : St} {R : List L} {ws : List W} (h : Run p σ R ws) : ∀ {K : List W → Prop}, K ws → p.holds σ K := by
  induction h with
  | done => exact fun hK => hK
  | gs _ ih => exact ih
  | gn _ ih => exact ih
  | need hφ _ ih => exact fun hK => ⟨hφ, ih hK⟩
  | ex x _ ih => exact fun hK => ⟨x, ih hK⟩
  | yes _ ih => exact fun hK => ih hK
  | no _ ih => exact fun hK => ih hK
  | wr _ ih => exact fun {K} hK => ih (K := fun ws2 => K (_ ++ ws2)) hK
theorem Run.agree {p : Pg} {σ : St} {R : List L} {ws : List W} (h : Run p σ R ws) : ∀ {τ : St}, (∀ x ∈ R, atL σ x = atL τ x) → Run p τ R ws := by
  induction h with
  | done => exact fun _ => .done _ _
  | gs h ih =>
    intro τ hR
    have h1 := hR _ List.mem_cons_self
    simp only [atL, Sum.inl.injEq] at h1
    refine .gs ?_
    rw [← h1]
    exact ih (fun x hx => hR x (List.mem_cons_of_mem _ hx))
  | gn h ih =>
    intro τ hR
    have h1 := hR _ List.mem_cons_self
    simp only [atL, Sum.inr.injEq] at h1
    refine .gn ?_
    rw [← h1]
    exact ih (fun x hx => hR x (List.mem_cons_of_mem _ hx))
  | need hφ _ ih => exact fun hR => .need hφ (ih hR)
  | ex x _ ih => exact fun hR => .ex x (ih hR)
  | yes _ ih => exact fun hR => .yes (ih hR)
  | no _ ih => exact fun hR => .no (ih hR)
  | wr _ ih => exact fun hR => .wr (ih (fun x hx => atL_upd_agree _ (hR x hx)))
theorem log_run : ∀ {p : Pg} {σ : St} {R0 : List L} {K : List W → List L → Prop}, p.log σ R0 K → ∃ R ws R', Run p σ R ws ∧ K ws R' ∧ (∀ x ∈ R, x ∈ R') ∧ ∀ x ∈ R0, x ∈ R' := by
  intro p
  induction p with
  | fail => exact fun h => h.elim
  | done ws => exact fun {σ R0 K} h => ⟨[], ws, R0, .done _ _, h, by simp, fun _ h => h⟩
  | gs t f ih =>
    intro σ R0 K h
    obtain ⟨R, ws, R', h1, h2, h3, h4⟩ := ih _ h
    refine ⟨_, ws, R', .gs h1, h2, fun x hx => ?_, fun x hx => h4 x (List.mem_cons_of_mem _ hx)⟩
    rcases List.mem_cons.1 hx with rfl | hx
    · exact h4 _ List.mem_cons_self
    · exact h3 x hx
  | gn κ f ih =>
    intro σ R0 K h
    obtain ⟨R, ws, R', h1, h2, h3, h4⟩ := ih _ h
    refine ⟨_, ws, R', .gn h1, h2, fun x hx => ?_, fun x hx => h4 x (List.mem_cons_of_mem _ hx)⟩
    rcases List.mem_cons.1 hx with rfl | hx
    · exact h4 _ List.mem_cons_self
    · exact h3 x hx
  | need φ p ih =>
    intro σ R0 K h
    obtain ⟨R, ws, R', h1, h2⟩ := ih h.2
    exact ⟨R, ws, R', .need h.1 h1, h2⟩
  | ex α f ih =>
    intro σ R0 K h
    obtain ⟨x, h⟩ := h
    obtain ⟨R, ws, R', h1, h2⟩ := ih x h
    exact ⟨R, ws, R', .ex x h1, h2⟩
  | br b p q ihp ihq =>
    intro σ R0 K h
    cases b with
    | true => obtain ⟨R, ws, R', h1, h2⟩ := ihp h; exact ⟨R, ws, R', .yes h1, h2⟩
    | false => obtain ⟨R, ws, R', h1, h2⟩ := ihq h; exact ⟨R, ws, R', .no h1, h2⟩
  | al φ f ih => exact fun h => h.elim
  | wr ws p ih =>
    intro σ R0 K h
    obtain ⟨R, ws', R', h1, h2⟩ := ih h
    exact ⟨R, _, R', .wr h1, h2⟩

/-- an operation with its guard -/
def gPg (E : TE) (C : Ctx) (ops : List Oper) (o : Oper) : Pg := match o.guard with
  | none => opPg E C o.dst o.op
  | some (j, want) => match (ops[j]?).bind (·.dst) with
    | none => .fail
    | some g => .gs g fun v => match v with
      | .lit (.bool b) => if b = want then opPg E C o.dst o.op else .done (put o.dst unset)
      | .lit (.tuple _) => .done (put o.dst unset)
      | _ => .fail

structure Done where
  i : Nat
  R : List L
  ws : List W
inductive Chain (E : TE) (C : Ctx) (ops : List Oper) : St → List Done → St → Prop
  | nil (σ : St) : Chain E C ops σ [] σ
  | cons {σ τ : St} {e : Done} {l : List Done} {o : Oper} : ops[e.i]? = some o → Run (gPg E C ops o) σ e.R e.ws → Chain E C ops (σ.upd e.ws) l τ → Chain E C ops σ (e :: l) τ

def Indep (e f : Done) : Prop := (∀ x ∈ locs e.ws, x ∉ f.R) ∧ (∀ x ∈ locs e.ws, x ∉ locs f.ws) ∧ ∀ x ∈ locs f.ws, x ∉ e.R

theorem Chain.like {C : Ctx} {ops : List Oper} {σ τ : St} {l : List Done} (h : Chain E C ops σ l τ) : ∀ {σ' : St}, Like σ σ' → ∃ τ', Chain E C ops σ' l τ' ∧ Like τ τ' := by
  induction h with
  | nil σ => exact fun {σ'} h => ⟨σ', .nil _, h⟩
  | cons ho hr _ ih =>
    intro σ' hl
    obtain ⟨τ', h1, h2⟩ := ih (hl.upd _)
    exact ⟨τ', .cons ho (hr.agree (fun x _ => hl x)) h1, h2⟩
theorem Chain.swap {C : Ctx} {ops : List Oper} {σ τ : St} {e f : Done} {l : List Done} (h : Chain E C ops σ (e :: f :: l) τ) (hi : Indep e f) : ∃ τ', Chain E C ops σ (f :: e :: l) τ' ∧ Like τ τ' := by
  cases h with
  | cons ho hr h =>
    cases h with
    | cons ho' hr' h =>
      obtain ⟨h1, h2, h3⟩ := hi
      obtain ⟨τ', hc, hl⟩ := h.like (upd_comm h2)
      refine ⟨τ', .cons ho' (hr'.agree fun x hx => atL_upd_out _ (fun hx' => h1 x hx' hx)) (.cons ho (hr.agree fun x hx => (atL_upd_out _ (fun hx' => h3 x hx' hx)).symm) hc), hl⟩
theorem Like.trans {σ τ υ : St} (h : Like σ τ) (h' : Like τ υ) : Like σ υ := fun x => (h x).trans (h' x)
theorem Chain.front {C : Ctx} {ops : List Oper} {e : Done} {l2 : List Done} : ∀ (l1 : List Done) {σ τ : St}, Chain E C ops σ (l1 ++ e :: l2) τ → (∀ f ∈ l1, Indep f e) → ∃ τ', Chain E C ops σ (e :: (l1 ++ l2)) τ' ∧ Like τ τ'
  | [], σ, τ, h, _ => ⟨τ, h, fun _ => rfl⟩
  | f :: l1, σ, τ, h, hi => by
    cases h with
    | cons ho hr h =>
      obtain ⟨τ', hc, hl⟩ := Chain.front l1 h (fun g hg => hi g (List.mem_cons_of_mem _ hg))
      obtain ⟨τ2, hc2, hl2⟩ := Chain.swap (.cons ho hr hc) (hi f List.mem_cons_self)
      exact ⟨τ2, hc2, hl.trans hl2⟩
end
end Go.Vm
/- Regions whose order is drawn: every order does what the order of the text does. -/
namespace Go.Vm
section
variable {P : Program} {E : TE} {LW : Code → (Ex → St → Prop) → St → Prop} {w : World} {σ : St} {Λ : Lam} {imm : Set} {F : Key → Set} {ρ : Env} {o : Oper} {a : Act} {Q : Exit → Act → World → Prop}

def Dir (ops : List Oper) (i j : Nat) : Prop := ∃ o, ops[i]? = some o ∧ j ∈ directOf o.after.toList
inductive Anc (ops : List Oper) : Nat → Nat → Prop
  | one {i j : Nat} : Dir ops i j → Anc ops i j
  | more {i m j : Nat} : Dir ops i m → Anc ops m j → Anc ops i j

theorem directOf_mem {e : Edge} : ∀ {es : List Edge}, e ∈ es → bindsAny e = true → e.on ∈ directOf es
  | x :: es, h, hb => by
    simp only [directOf]
    rcases List.mem_cons.1 h with rfl | h
    · rw [if_pos hb]; exact List.mem_cons_self
    · split
      · exact List.mem_cons_of_mem _ (directOf_mem h hb)
      · exact directOf_mem h hb
theorem mem_directOf {j : Nat} : ∀ {es : List Edge}, j ∈ directOf es → ∃ e ∈ es, bindsAny e = true ∧ e.on = j
  | x :: es, h => by
    simp only [directOf] at h
    split at h
    · rename_i hb
      rcases List.mem_cons.1 h with rfl | h
      · exact ⟨x, List.mem_cons_self, hb, rfl⟩
      · obtain ⟨e, h1, h2⟩ := mem_directOf h; exact ⟨e, List.mem_cons_of_mem _ h1, h2⟩
    · obtain ⟨e, h1, h2⟩ := mem_directOf h; exact ⟨e, List.mem_cons_of_mem _ h1, h2⟩
theorem belowAll_iff (i : Nat) : ∀ l, belowAll i l = true → ∀ j ∈ l, j < i
  | [], _, _, h => by simp at h
  | x :: l, h, j, hj => by
    simp only [belowAll] at h
    split at h
    · rename_i hb
      rcases List.mem_cons.1 hj with rfl | hj
      · simpa [Nat.blt_eq] using hb
      · exact belowAll_iff i l h j hj
    · cases h

def EntOk (ops : List Oper) (es : List Ent) : Prop := ∀ e ∈ es, ∀ j ∈ e.anc, Anc ops e.i j
theorem ancIn_ok {ops : List Oper} {m j : Nat} : ∀ {es : List Ent}, EntOk ops es → j ∈ ancIn m es → Anc ops m j
  | [], _, h => by simp [ancIn] at h
  | e :: es, ho, h => by
    simp only [ancIn] at h
    split at h
    · rename_i hb
      rw [← Nat.eq_of_beq_eq_true hb]
      exact ho e List.mem_cons_self j h
    · exact ancIn_ok (fun e he => ho e (List.mem_cons_of_mem _ he)) h
theorem mem_unionN {j : Nat} : ∀ {xs l : List Nat}, j ∈ unionN xs l → j ∈ xs ∨ j ∈ l
  | [], l, h => .inr h
  | x :: xs, l, h => by
    simp only [unionN] at h
    split at h
    · exact (mem_unionN h).imp (List.mem_cons_of_mem _) id
    · rcases List.mem_cons.1 h with rfl | h
      · exact .inl List.mem_cons_self
      · exact (mem_unionN h).imp (List.mem_cons_of_mem _) id
theorem ancs_ok {ops : List Oper} {i j : Nat} {es : List Ent} (ho : EntOk ops es) : ∀ {ds : List Nat}, (∀ m ∈ ds, Dir ops i m) → j ∈ ancs es ds → Anc ops i j
  | [], _, h => by simp [ancs] at h
  | d :: ds, hd, h => by
    simp only [ancs] at h
    rcases mem_unionN h with h | h
    · rcases List.mem_cons.1 h with rfl | h
      · exact .one (hd _ List.mem_cons_self)
      · exact .more (hd d List.mem_cons_self) (ancIn_ok ho h)
    · exact ancs_ok ho (fun m hm => hd m (List.mem_cons_of_mem _ hm)) h

def IndE (e : Ent) (f : Done) : Prop := (∀ x ∈ e.wr, x ∉ f.R) ∧ (∀ x ∈ e.wr, x ∉ locs f.ws) ∧ ∀ x ∈ locs f.ws, x ∉ e.rd
theorem apartEnt_iff {anc : List Nat} {rd wr : List L} : ∀ {es : List Ent}, apartEnt anc rd wr es = true → ∀ e ∈ es, e.i ∈ anc ∨ ((∀ x ∈ e.wr, x ∉ rd) ∧ (∀ x ∈ e.wr, x ∉ wr) ∧ ∀ x ∈ wr, x ∉ e.rd)
  | [], _, e, h => by simp at h
  | f :: es, h, e, he => by
    simp only [apartEnt] at h
    split at h
    · rename_i hn
      rcases List.mem_cons.1 he with rfl | he
      · exact .inl ((hasN_iff _ _).1 hn)
      · exact apartEnt_iff h e he
    · split at h
      · rename_i h1
        split at h
        · rename_i h2
          split at h
          · rename_i h3
            rcases List.mem_cons.1 he with rfl | he
            · exact .inr ⟨(apartL_iff _ _).1 h1, (apartL_iff _ _).1 h2, (apartL_iff _ _).1 h3⟩
            · exact apartEnt_iff h e he
          · cases h
        · cases h
      · cases h

theorem like_const {σ : St} {g : Nat} {b : Bool} (hg : lkS σ.slots g = .lit (.bool b)) : Like σ (σ.upd1 (.s g (.lit (.bool b)))) := fun x => by
  cases x with
  | s t => simp only [atL, Sum.inl.injEq]; exact (guard_const hg t).symm
  | n κ => rfl

def DrawOut (E : TE) (C : Ctx) (ops : List Oper) (K : St → Prop) (n i : Nat) (es : List Ent) (σ : St) : Prop :=
  ∃ l τ τ', Chain E C ops σ l τ' ∧ Like τ τ' ∧ K τ ∧ l.map (·.i) = List.range' i n ∧ l.Pairwise (fun e f => Anc ops f.i e.i ∨ Indep e f) ∧ (∀ e ∈ es, ∀ f ∈ l, Anc ops f.i e.i ∨ IndE e f) ∧ (∀ f ∈ l, ∀ j, Dir ops f.i j → j < f.i)

theorem draw_chain {C : Ctx} {ops : List Oper} {K : St → Prop} : ∀ (rest : List Oper) (i : Nat) (es : List Ent) (σ : St), wpDraw E C ops K rest i es σ → EntOk ops es → (∀ j, rest[j]? = ops[i + j]?) →
    DrawOut E C ops K rest.length i es σ
  | [], i, es, σ, hh, _, _ => ⟨[], σ, σ, .nil _, fun _ => rfl, hh, by simp, by simp, by simp, by simp⟩
  | o :: rest, i, es, σ, hh, hes, hops => by
    have h0 : ops[i]? = some o := by simpa using (hops 0).symm
    have hops' : ∀ j, rest[j]? = ops[i + 1 + j]? := fun j => by have := hops (j + 1); simpa [Nat.add_assoc, Nat.add_comm 1 j] using this
    simp only [wpDraw] at hh
    obtain ⟨hbelow, hh⟩ := hh
    have hdir : ∀ m ∈ directOf o.after.toList, Dir ops i m := fun m hm => ⟨o, h0, hm⟩
    -- one entry, and those behind it
    have go : ∀ (R R' : List L) (ws : List W) (σ1 : St), Run (gPg E C ops o) σ R ws → (∀ x ∈ R, x ∈ R') → apartEnt (ancs es (directOf o.after.toList)) R' (locs ws) es = true → Like (σ1.upd ws) (σ.upd ws) →
        wpDraw E C ops K rest (i + 1) (⟨i, ancs es (directOf o.after.toList), R', locs ws⟩ :: es) (σ1.upd ws) →
        DrawOut E C ops K (o :: rest).length i es σ := by
      intro R R' ws σ1 hrun hsub hap hlike hw
      have hes' : EntOk ops (⟨i, ancs es (directOf o.after.toList), R', locs ws⟩ :: es) := by
        intro e he
        rcases List.mem_cons.1 he with rfl | he
        · exact fun j hj => ancs_ok hes hdir hj
        · exact hes e he
      obtain ⟨l, τ, τ', r1, r2, r3, r4, r5, r6, r7⟩ := draw_chain rest (i + 1) _ _ hw hes' hops'
      obtain ⟨τ2, q1, q2⟩ := r1.like hlike
      refine ⟨⟨i, R, ws⟩ :: l, τ, τ2, .cons (e := ⟨i, R, ws⟩) h0 hrun q1, r2.trans q2, r3, ?_, ?_, ?_, ?_⟩
      · simp [r4, List.range'_succ]
      · refine List.pairwise_cons.2 ⟨fun f hf => ?_, r5⟩
        rcases r6 _ List.mem_cons_self f hf with h | ⟨h1, h2, h3⟩
        · exact .inl h
        · exact .inr ⟨h1, h2, fun x hx hR => h3 x hx (hsub x hR)⟩
      · intro e he f hf
        rcases List.mem_cons.1 hf with rfl | hf
        · rcases apartEnt_iff hap e he with h | ⟨h1, h2, h3⟩
          · exact .inl (ancs_ok hes hdir h)
          · exact .inr ⟨fun x hx hR => h1 x hx (hsub x hR), h2, h3⟩
        · exact r6 e (List.mem_cons_of_mem _ he) f hf
      · intro f hf j hj
        rcases List.mem_cons.1 hf with rfl | hf
        · obtain ⟨o', h1, h2⟩ := hj
          rw [h0] at h1
          cases h1
          exact belowAll_iff i _ hbelow j h2
        · exact r7 f hf j hj
    split at hh
    · rename_i hgd
      obtain ⟨R, ws, R', h1, ⟨h2, h3⟩, h4, _⟩ := log_run hh
      refine go R R' ws σ ?_ h4 h2 (fun _ => rfl) h3
      simp only [gPg, hgd]
      exact h1
    · rename_i j want hgd
      split at hh
      · exact hh.elim
      · rename_i g hj
        split at hh
        · rename_i b hg
          have run : b = want → (opPg E C o.dst o.op).log σ [.s g] (fun ws R => apartEnt (ancs es (directOf o.after.toList)) R (locs ws) es = true ∧ wpDraw E C ops K rest (i + 1) (⟨i, ancs es (directOf o.after.toList), R, locs ws⟩ :: es) (σ.upd ws)) → DrawOut E C ops K (o :: rest).length i es σ := fun hb hq => by
            subst hb
            obtain ⟨R, ws, R', h1, ⟨h2, h3⟩, h4, h5⟩ := log_run hq
            refine go (.s g :: R) R' ws σ ?_ (fun x hx => ?_) h2 (fun x => rfl) h3
            · simp only [gPg, hgd, hj]
              refine .gs ?_
              rw [hg]
              simp only [if_true]
              exact h1
            · rcases List.mem_cons.1 hx with rfl | hx
              · exact h5 _ List.mem_cons_self
              · exact h4 x hx
          have skip : b ≠ want → (apartEnt (ancs es (directOf o.after.toList)) [.s g] (locs (put o.dst unset)) es = true ∧ wpDraw E C ops K rest (i + 1) (⟨i, ancs es (directOf o.after.toList), [.s g], locs (put o.dst unset)⟩ :: es) (σ.upd (put o.dst unset))) → DrawOut E C ops K (o :: rest).length i es σ := fun hb hq => by
            obtain ⟨h2, h3⟩ := hq
            refine go [.s g] [.s g] (put o.dst unset) σ ?_ (fun x hx => hx) h2 (fun x => rfl) h3
            simp only [gPg, hgd, hj]
            refine .gs ?_
            rw [hg]
            simp only [if_neg hb]
            exact .done _ _
          cases want <;> cases b
          · exact run rfl hh
          · exact skip (by simp) hh
          · exact skip (by simp) hh
          · exact run rfl hh
        · rename_i u hg
          obtain ⟨h2, h3⟩ := hh
          refine go [.s g] [.s g] (put o.dst unset) σ ?_ (fun x hx => hx) h2 (fun x => rfl) h3
          simp only [gPg, hgd, hj]
          refine .gs ?_
          rw [hg]
          exact .done _ _
        · exact hh.elim

theorem gop_sound (hE : EOk P E) {ops : Array Oper} (hda : ∀ o ∈ ops.toList, ∀ t, o.dst = some t → t < ρ.n) (hd : ∀ t, o.dst = some t → t < ρ.n) {K : List W → Prop} {Kn : Act → World → Prop} {i : Nat} (hi : ops[i]? = some o) (hK : ∀ ws a w, K ws → Rel ρ (σ.upd ws) a w → Kn a w)
    (hh : (gPg E (canon (FunW P) LW) ops.toList o).holds σ K) (h : Rel ρ σ a w) : wpOp P ops Q i Kn a w := by
  have step : (opPg E (canon (FunW P) LW) o.dst o.op).holds σ K → o.wp P a w Kn Q ∨ (o.asks P a w ∧ LetsOut Q) := fun hh => by
    obtain ⟨imm, Λ, F, hX⟩ := h
    exact (op_sound hE hX hd hh).imp (Oper.wp_mono fun a w ⟨ws, h1, h2⟩ => hK ws a w h1 h2) id
  simp only [wpOp, hi]
  unfold gPg at hh
  split at hh
  · rename_i hgd
    have hw : Region.wanted o (yielded ops a.tmps) = true := by simp [Region.wanted, hgd]
    rw [if_pos hw]
    exact step hh
  · rename_i j want hgd
    split at hh
    · exact hh.elim
    · rename_i g hj
      simp only [Pg.holds] at hh
      split at hh
      · rename_i b hg
        obtain ⟨imm, Λ, F, hX⟩ := h
        have hw := wanted_some hgd hj (hX.slotv (guard_lt hda hj) hg)
        rw [hw]
        split at hh
        · rename_i hb
          subst hb
          rw [if_pos (by simp)]
          exact step hh
        · rename_i hb
          rw [if_neg (by simpa using hb)]
          exact hK _ _ _ hh (Rel.unset ⟨imm, Λ, F, hX⟩ hd)
      · rename_i u hg
        obtain ⟨imm, Λ, F, hX⟩ := h
        rw [wanted_not hgd hj (hX.slotu (guard_lt hda hj) hg)]
        exact hK _ _ _ hh (Rel.unset ⟨imm, Λ, F, hX⟩ hd)
      · exact hh.elim

theorem Like.rel {σ τ : St} (hl : Like σ τ) (h : Rel ρ σ a w) : Rel ρ τ a w :=
  h.same (fun t => by have := hl (.s t); simp only [atL, Sum.inl.injEq] at this; exact this.symm) (fun κ => by have := hl (.n κ); simp only [atL, Sum.inr.injEq] at this; exact this.symm)

theorem any_sound (hE : EOk P E) {ops : Array Oper} (hd : ∀ o ∈ ops.toList, ∀ t, o.dst = some t → t < ρ.n) {τ0 : St} (hK : ∀ a w, Rel ρ τ0 a w → Q .normal a w) : ∀ (fuel : Nat) (l : List Done) (listed : Array Bool) (σ τ : St) (a : Act) (w : World),
    Chain E (canon (FunW P) LW) ops.toList σ l τ → Like τ0 τ → l.Pairwise (fun e f => Anc ops.toList f.i e.i ∨ Indep e f) → l.Pairwise (fun e f => e.i < f.i) → (∀ f ∈ l, ∀ j, Dir ops.toList f.i j → j < f.i) →
    (∀ i, i < ops.size → (listed.getD i true = false ↔ ∃ e ∈ l, e.i = i)) → (∀ e ∈ l, e.i < ops.size) → listed.size = ops.size → (∀ i j, Dir ops.toList i j → i < ops.size → listed.getD i true = true → listed.getD j false = true) → l.length ≤ fuel → Rel ρ σ a w → wpAny P .any ops Q fuel listed a w := by
  intro fuel
  induction fuel with
  | zero =>
    intro l listed σ τ a w hc hl _ _ _ hlist _ _ _ hlen hr
    obtain rfl : l = [] := List.eq_nil_of_length_eq_zero (by omega)
    cases hc
    refine ⟨?_, hK a w (Like.rel (τ := τ0) (fun x => (hl x).symm) hr)⟩
    unfold Region.ready
    rw [List.filter_eq_nil_iff]
    intro i hi
    simp only [List.mem_range] at hi
    have : ¬ (listed.getD i true = false) := fun h => by obtain ⟨e, he, _⟩ := (hlist i hi).1 h; simp at he
    simp only [Bool.not_eq_false] at this
    simp [this]
  | succ fuel ih =>
    intro l listed σ τ a w hc hl hp hs hlex hlist hin hsz hcl hlen hr
    -- what is ready
    have ready : ∀ i, i ∈ Region.ready .any ops listed ↔ i < ops.size ∧ listed.getD i true = false ∧ ∀ j, Dir ops.toList i j → listed.getD j false = true := by
      intro i
      unfold Region.ready
      rw [List.mem_filter, List.mem_range]
      refine and_congr_right fun hi => ?_
      have hoi : ops[i]? = some ops[i] := by simp [hi]
      simp only [hoi, Option.map_some, Option.getD_some, Bool.and_eq_true, Array.all_eq_true_iff_forall_mem, Bool.or_eq_true, Bool.not_eq_eq_eq_not]
      refine and_congr_right fun _ => ⟨fun h j hj => ?_, fun h e he => ?_⟩
      · obtain ⟨o, ho, hj⟩ := hj
        rw [Array.getElem?_toList, hoi] at ho
        cases ho
        obtain ⟨e, he, hb, rfl⟩ := mem_directOf hj
        rcases h e (Array.mem_toList_iff.1 he) with h' | h'
        · unfold bindsAny at hb
          unfold Region.binds at h'
          cases hg : e.ground <;> rw [hg] at hb h' <;> simp at hb h'
        · exact h'
      · by_cases hb : bindsAny e = true
        · exact .inr (h e.on ⟨ops[i], by rw [Array.getElem?_toList, hoi], directOf_mem (Array.mem_toList_iff.2 he) hb⟩)
        · left
          unfold bindsAny at hb
          unfold Region.binds
          cases hg : e.ground <;> rw [hg] at hb <;> simp at hb ⊢ <;> rfl
    refine ⟨fun hnil => ?_, fun i hi => ?_⟩
    · cases l with
      | nil => cases hc; exact hK a w (Like.rel (τ := τ0) (fun x => (hl x).symm) hr)
      | cons e l =>
        exfalso
        have : e.i ∈ Region.ready .any ops listed := by
          refine (ready e.i).2 ⟨hin e List.mem_cons_self, (hlist e.i (hin e List.mem_cons_self)).2 ⟨e, List.mem_cons_self, rfl⟩, fun j hj => ?_⟩
          have hlt := hlex e List.mem_cons_self j hj
          have hjs : j < ops.size := Nat.lt_trans hlt (hin e List.mem_cons_self)
          have h1 : ¬ (listed.getD j true = false) := fun h => by
            obtain ⟨f, hf, hfj⟩ := (hlist j hjs).1 h
            rcases List.mem_cons.1 hf with rfl | hf
            · omega
            · have := (List.pairwise_cons.1 hs).1 f hf; omega
          simp only [Bool.not_eq_false] at h1
          rw [Array.getD_eq_getD_getElem?] at h1 ⊢
          have : listed[j]? = some listed[j] := by simp [hsz, hjs]
          rw [this] at h1 ⊢
          exact h1
        rw [hnil] at this
        simp at this
    · obtain ⟨hi1, hi2, hi3⟩ := (ready i).1 hi
      obtain ⟨e, he, rfl⟩ := (hlist i hi1).1 hi2
      obtain ⟨l1, l2, rfl⟩ := List.append_of_mem he
      have hanc : ∀ j, Anc ops.toList e.i j → listed.getD j false = true := by
        have gen : ∀ i j, Anc ops.toList i j → (∀ m, Dir ops.toList i m → listed.getD m false = true) → listed.getD j false = true := by
          intro i j h
          induction h with
          | one h => exact fun hm => hm _ h
          | @more i m j h _ ih' =>
            intro hm
            have h1 := hm m h
            have hms : m < ops.size := by
              rw [Array.getD_eq_getD_getElem?] at h1
              rcases Nat.lt_or_ge m ops.size with h2 | h2
              · exact h2
              · rw [Array.getElem?_eq_none (by omega)] at h1; simp at h1
            have h1' : listed.getD m true = true := by
              rw [Array.getD_eq_getD_getElem?] at h1 ⊢
              have : listed[m]? = some listed[m] := by simp [hsz, hms]
              rw [this] at h1 ⊢
              exact h1
            exact ih' (fun m' hm' => hcl m m' hm' hms h1')
        exact fun j h => gen _ j h hi3
      have hfr : ∀ f ∈ l1, Indep f e := by
        intro f hf
        have hpw := List.pairwise_append.1 hp
        rcases hpw.2.2 f hf e List.mem_cons_self with h | h
        · exfalso
          have h1 := hanc _ h
          have hfl := (hlist f.i (hin f (List.mem_append_left _ hf))).2 ⟨f, List.mem_append_left _ hf, rfl⟩
          have hfs := hin f (List.mem_append_left _ hf)
          rw [Array.getD_eq_getD_getElem?] at h1 hfl
          have : listed[f.i]? = some listed[f.i] := by simp [hsz, hfs]
          rw [this] at h1 hfl
          simp at h1 hfl
          rw [h1] at hfl; cases hfl
        · exact h
      obtain ⟨τ', hc', hl'⟩ := hc.front l1 hfr
      cases hc' with
      | cons ho hrun hrest =>
        rename_i o
        have ho' : ops[e.i]? = some o := by rw [← Array.getElem?_toList]; exact ho
        have hom : o ∈ ops.toList := List.mem_of_getElem? ho
        refine gop_sound hE hd (hd o hom) (K := fun ws => ws = e.ws) ho' ?_ (hrun.holds rfl) hr
        rintro ws a' w' rfl hr'
        have sub : ∀ f ∈ l1 ++ l2, f ∈ l1 ++ e :: l2 := fun f hf => by
          rcases List.mem_append.1 hf with h | h
          · exact List.mem_append_left _ h
          · exact List.mem_append_right _ (List.mem_cons_of_mem _ h)
        have hsub : (l1 ++ l2).Sublist (l1 ++ e :: l2) := (List.sublist_cons_self e l2).append_left l1
        refine ih (l1 ++ l2) _ _ _ a' w' hrest (hl.trans hl') (hp.sublist hsub) (hs.sublist hsub) (fun f hf => hlex f (sub f hf)) ?_ (fun f hf => hin f (sub f hf)) (by simp [hsz]) ?_ ?_ hr'
        · intro i hi
          have hne : ∀ f ∈ l1 ++ l2, f.i ≠ e.i := by
            intro f hf
            have hpw := List.pairwise_append.1 hs
            rcases List.mem_append.1 hf with h | h
            · have := hpw.2.2 f h e List.mem_cons_self; omega
            · have := (List.pairwise_cons.1 hpw.2.1).1 f h; omega
          rw [Array.getD_eq_getD_getElem?, Array.getElem?_setIfInBounds]
          by_cases hie : e.i = i
          · rw [if_pos hie]
            simp only [hsz, hie, hi, if_true, Option.getD_some, Bool.true_eq_false, false_iff]
            rintro ⟨f, hf, hfi⟩
            exact hne f hf (hfi.trans hie.symm)
          · rw [if_neg hie, ← Array.getD_eq_getD_getElem?, hlist i hi]
            constructor
            · rintro ⟨f, hf, rfl⟩
              rcases List.mem_append.1 hf with h | h
              · exact ⟨f, List.mem_append_left _ h, rfl⟩
              · rcases List.mem_cons.1 h with rfl | h
                · exact absurd rfl hie
                · exact ⟨f, List.mem_append_right _ h, rfl⟩
            · rintro ⟨f, hf, rfl⟩
              exact ⟨f, sub f hf, rfl⟩
        · intro i j hij hi hli
          have keep : listed.getD j false = true → (listed.setIfInBounds e.i true).getD j false = true := fun h => by
            rw [Array.getD_eq_getD_getElem?, Array.getElem?_setIfInBounds]
            by_cases hej : e.i = j
            · rw [if_pos hej]; simp [hsz, hi1]
            · rw [if_neg hej, ← Array.getD_eq_getD_getElem?]; exact h
          rw [Array.getD_eq_getD_getElem?, Array.getElem?_setIfInBounds] at hli
          by_cases hie : e.i = i
          · exact keep (hi3 j (hie ▸ hij))
          · rw [if_neg hie, ← Array.getD_eq_getD_getElem?] at hli
            exact keep (hcl i j hij hi hli)
        · simp only [List.length_append, List.length_cons] at hlen ⊢
          omega

/-- a region whose order is drawn -/
theorem draw_sound (hE : EOk P E) (hm : P.follows .mixedOrders = true) {ops : Array Oper} {K : St → Prop} (hK : ∀ a w σ, K σ → Rel ρ σ a w → Q .normal a w) (hd : ∀ o ∈ ops.toList, ∀ t, o.dst = some t → t < ρ.n) {id : Nat}
    (hh : wpDraw E (canon (FunW P) LW) ops.toList K ops.toList 0 [] σ) (h : Rel ρ σ a w) : (Code.region id ops true).wp P Q a w := by
  refine wp_region_any hm ?_
  obtain ⟨l, τ, τ', r1, r2, r3, r4, r5, _, r7⟩ := draw_chain ops.toList 0 [] σ hh (fun e he => by simp at he) (fun j => by simp)
  have hmem : ∀ i, (∃ e ∈ l, e.i = i) ↔ i < ops.size := fun i => by
    have : i ∈ l.map (·.i) ↔ i < ops.size := by rw [r4, List.mem_range']; simp
    rw [← this]; simp
  refine any_sound hE hd (fun a w hr => hK a w τ r3 hr) ops.size l _ σ τ' a _ r1 r2 r5 ?_ r7 ?_ ?_ (by simp) ?_ ?_ ?_
  · have : (l.map (·.i)).Pairwise (· < ·) := by rw [r4]; exact List.pairwise_lt_range'
    exact List.pairwise_map.1 this
  · intro i hi
    have hg : (Array.replicate ops.size false).getD i true = false := by
      rw [Array.getD_eq_getD_getElem?]; simp [hi]
    rw [hg, hmem i]
    simp [hi]
  · exact fun e he => (hmem e.i).1 ⟨e, he, rfl⟩
  · intro i j _ hi hli
    rw [Array.getD_eq_getD_getElem?] at hli
    simp [hi] at hli
  · have := congrArg List.length r4
    simp at this
    omega
  · obtain ⟨imm, Λ, F, hX⟩ := h
    exact ⟨imm, Λ, F, hX.draw⟩
end
end Go.Vm
/- Code, loops, functions. -/
namespace Go.Vm
section
variable {P : Program} {E : TE} {w : World} {σ : St} {Λ : Lam} {imm : Set} {F : Key → Set} {ρ : Env} {o : Oper} {a : Act}

/-- what is promised of a state, promised of the machine -/
def Lift (ρ : Env) (Q : Ex → St → Prop) : Exit → Act → World → Prop
  | .normal, a, w => ∃ σ, Q .normal σ ∧ Rel ρ σ a w
  | .exit id, a, w => ∃ σ, Q (.exit id) σ ∧ Rel ρ σ a w
  | .ret, a, w => ∃ σ, Q .ret σ ∧ Rel ρ σ a w
  | _, _, _ => False

/-- what code does from a state on -/
def SemC (P : Program) (c : Code) (Q : Ex → St → Prop) (σ : St) : Prop := ∀ ρ a w, codeOk ρ.n c = true → Rel ρ σ a w → c.wp P (Lift ρ Q) a w
/-- loops, in the machine's terms -/
def LWc (P : Program) (c : Code) (Q : Ex → St → Prop) (σ : St) : Prop := (marked c = false → SemC P (.loop c) Q σ) ∧ ∀ l r, c = .seq (.label l) r → SemC P r Q σ
abbrev real (P : Program) : Ctx := canon (FunW P) (LWc P)

theorem opsOk_iff {n : Nat} : ∀ {l : List Oper}, opsOk n l = true → ∀ o ∈ l, ∀ t, o.dst = some t → t < n
  | [], _, o, ho => by simp at ho
  | x :: l, h, o, ho => by
    simp only [opsOk] at h
    split at h
    · rename_i hx
      rcases List.mem_cons.1 ho with rfl | ho
      · intro t ht; rw [hx] at ht; cases ht
      · exact opsOk_iff h o ho
    · rename_i d hx
      split at h
      · rename_i hb
        rcases List.mem_cons.1 ho with rfl | ho
        · intro t ht; rw [hx] at ht; cases ht; simpa [Nat.blt_eq] using hb
        · exact opsOk_iff h o ho
      · cases h

theorem wpC_sound (hE : EOk P E) (hm : P.follows .mixedOrders = true) : ∀ (c : Code) (Q : Ex → St → Prop) (σ : St), wpC E (real P) c Q σ → SemC P c Q σ
  | .skip, Q, σ, hh, ρ, a, w, _, h => wp_skip ⟨σ, hh, h⟩
  | .region id ops false, Q, σ, hh, ρ, a, w, hc, h =>
    wp_region_list (wpOps_sound hE (K := Q .normal) (fun a w σ hq hr => ⟨σ, hq, hr⟩) ops.toList σ a w (opsOk_iff hc) (fun _ h => h) hh h)
  | .region id ops true, Q, σ, hh, ρ, a, w, hc, h => by
    simp only [wpC] at hh
    cases hg : hasN id E.gap with
    | true => rw [hg] at hh; exact hh.2 0 _ rfl ρ a w hc h
    | false => rw [hg] at hh; exact draw_sound hE hm (K := Q .normal) (fun a w σ hq hr => ⟨σ, hq, hr⟩) (opsOk_iff hc) hh h
  | .seq x y, Q, σ, hh, ρ, a, w, hc, h => by
    have hc' : codeOk ρ.n x = true ∧ codeOk ρ.n y = true := by
      simp only [codeOk] at hc
      split at hc
      · rename_i h1; exact ⟨h1, hc⟩
      · cases hc
    refine wp_seq (wp_mono (wpC_sound hE hm x _ σ hh ρ a w hc'.1 h) ?_)
    intro e a' w' hq
    cases e with
    | normal => obtain ⟨σ', h1, h2⟩ := hq; exact wpC_sound hE hm y Q σ' h1 ρ a' w' hc'.2 h2
    | exit id => exact hq
    | ret => exact hq
    | outgrown => exact hq
    | _ => exact hq
  | .cond (.tmp t) x y, Q, σ, hh, ρ, a, w, hc, h => by
    have hc' : t < ρ.n ∧ codeOk ρ.n x = true ∧ codeOk ρ.n y = true := by
      simp only [codeOk] at hc
      split at hc
      · rename_i h0
        split at hc
        · rename_i h1; exact ⟨by simpa [Nat.blt_eq] using h0, h1, hc⟩
        · cases hc
      · cases hc
    simp only [wpC] at hh
    split at hh
    · rename_i b hb
      obtain ⟨imm, Λ, F, hX⟩ := h
      have hn := hX.nlt
      have ht := hc'.1
      have hs := hX.slots t
      rw [hb] at hs
      unfold slotv at hs
      rw [if_pos (Nat.lt_of_lt_of_le ht hn)] at hs
      have hv : a.eval (.tmp t) = .bool b := CR_lit hs
      refine wp_cond_split hv (fun e => ?_) (fun e => ?_)
      · subst e; exact wpC_sound hE hm x Q σ hh ρ a w hc'.2.1 ⟨imm, Λ, F, hX⟩
      · subst e; exact wpC_sound hE hm y Q σ hh ρ a w hc'.2.2 ⟨imm, Λ, F, hX⟩
    · exact hh.elim
  | .block id c, Q, σ, hh, ρ, a, w, hc, h => by
    refine wp_block (wp_mono (wpC_sound hE hm c _ σ hh ρ a w hc h) ?_)
    intro e a' w' hq
    cases e with
    | exit i =>
      obtain ⟨σ', h1, h2⟩ := hq
      simp only at h1
      simp only [Exit.inBlock]
      split
      · rename_i hi; rw [if_pos hi] at h1; exact ⟨σ', h1, h2⟩
      · rename_i hi; rw [if_neg hi] at h1; exact ⟨σ', h1, h2⟩
    | _ => exact hq
  | .exit id, Q, σ, hh, ρ, a, w, _, h => wp_exit ⟨σ, hh, h⟩
  | .ret, Q, σ, hh, ρ, a, w, _, h => wp_ret ⟨σ, hh, h⟩
  | .loop c, Q, σ, hh, ρ, a, w, hc, h => by
    simp only [wpC] at hh
    cases hg : marked c with
    | true => rw [hg] at hh; exact hh.elim
    | false => rw [hg] at hh; exact hh.1 hg ρ a w hc h
  | .cond (.const v) x y, Q, σ, hh, ρ, a, w, hc, h => by
    have hc' : codeOk ρ.n x = true ∧ codeOk ρ.n y = true := by
      simp only [codeOk] at hc
      split at hc
      · rename_i h1; exact ⟨h1, hc⟩
      · cases hc
    cases v with
    | bool b =>
      have hv : a.eval (.const (.bool b)) = .bool b := rfl
      refine wp_cond_split hv (fun e => ?_) (fun e => ?_)
      · subst e; exact wpC_sound hE hm x Q σ hh ρ a w hc'.1 h
      · subst e; exact wpC_sound hE hm y Q σ hh ρ a w hc'.2 h
    | _ => exact hh.elim
  | .cond (.global _) _ _, Q, σ, hh, _, _, _, _, _ => hh.elim
  | .cond (.func _) _ _, Q, σ, hh, _, _, _, _, _ => hh.elim
  | .label _, Q, σ, hh, _, _, _, _, _ => hh.elim
  | .goto _, Q, σ, hh, _, _, _, _, _ => hh.elim
  | .scope _ , Q, σ, hh, _, _, _, _, _ => hh.elim
  | .rangeFunc _ _ _ _, Q, σ, hh, _, _, _, _, _ => hh.elim
  | .refuse _, Q, σ, hh, _, _, _, _, _ => hh.elim

/-- a loop: a family of what holds when a round begins, and a number that falls -/
theorem wp_loop_ix {c : Code} {Q : Exit → Act → World → Prop} {ι : Type} (I : ι → Act → World → Prop) (μ : ι → Nat) (i0 : ι) (h0 : I i0 a w)
    (round : ∀ i a w, I i a w → c.wp P (Exit.then (fun a' w' => ∃ j, I j a' w' ∧ μ j < μ i) Q) a w) : (Code.loop c).wp P Q a w := by
  intro b k cs
  have key : ∀ n i a w, μ i = n → I i a w → ∃ e a' w', Q e a' w' ∧ Arrives P (lone (b.at a (.code c :: .inLoop c :: k)) cs w) b k cs e a' w' := by
    intro n
    induction n using Nat.strongRecOn with
    | _ n ih =>
      intro i a w hn hI
      obtain ⟨e, a₁, w₁, hq, harr⟩ := round i a w hI b (.inLoop c :: k) cs
      cases e with
      | normal =>
        obtain ⟨j, hI₁, hlt⟩ := hq
        obtain ⟨e₂, a₂, w₂, hq₂, harr₂⟩ := ih (μ j) (hn ▸ hlt) j a₁ w₁ rfl hI₁
        exact ⟨e₂, a₂, w₂, hq₂, .of_steps (Steps.trans harr (.one step_inLoop)) harr₂⟩
      | exit id => exact ⟨_, a₁, w₁, hq, .pass (x := .inLoop c) rfl (fun _ _ => .inl (by simp)) harr⟩
      | goto l => exact ⟨_, a₁, w₁, hq, .pass (x := .inLoop c) rfl (fun _ _ => .inl (by simp)) harr⟩
      | ret => exact ⟨_, a₁, w₁, hq, .pass (x := .inLoop c) rfl (fun _ _ => .inl (by simp)) harr⟩
      | panic ch => exact ⟨_, a₁, w₁, hq, .pass (x := .inLoop c) rfl (fun _ _ => .inl (by simp)) harr⟩
      | outgrown => exact ⟨_, a₁, w₁, hq, .pass (x := .inLoop c) rfl (fun _ _ => .inl (by simp)) harr⟩
  obtain ⟨e, a', w', hq, harr⟩ := key _ i0 a w rfl h0
  exact ⟨e, a', w', hq, .of_steps (.one step_loop) harr⟩

/-- τ says less than σ -/
def Cov (σ τ : St) : Prop := ∀ ρ a w, Rel ρ σ a w → Rel ρ τ a w

theorem loop_rule (hE : EOk P E) (hm : P.follows .mixedOrders = true) {c : Code} {Q : Ex → St → Prop} {ι : Type} (I : ι → St) (μ : ι → Nat) (i0 : ι) (h0 : Cov σ (I i0))
    (round : ∀ i, wpC E (real P) c (fun e σ' => match e with | .normal => ∃ j, Cov σ' (I j) ∧ μ j < μ i | e => Q e σ') (I i)) : SemC P (.loop c) Q σ := by
  intro ρ a w hc h
  refine wp_loop_ix (fun i a w => Rel ρ (I i) a w) μ i0 (h0 ρ a w h) (fun i a w hI => ?_)
  refine wp_mono (wpC_sound hE hm c _ (I i) (round i) ρ a w hc hI) ?_
  intro e a' w' hq
  cases e with
  | normal =>
    obtain ⟨σ', ⟨j, h1, h2⟩, h3⟩ := hq
    exact ⟨j, h1 ρ a' w' h3, h2⟩
  | exit id => exact hq
  | ret => exact hq
  | outgrown => exact hq
  | _ => exact hq
theorem LWc_loop {c : Code} {Q : Ex → St → Prop} (hmk : marked c = false) (h : SemC P (.loop c) Q σ) : LWc P c Q σ := ⟨fun _ => h, fun l r e => by rw [e] at hmk; cases hmk⟩
/-- a drawn region, from a state that says less -/
theorem gap_go {E : TE} {C : Ctx} (hC : C = real P) (hE : EOk P E) (hm : P.follows .mixedOrders = true) {id : Nat} {ops : Array Oper} {Q : Ex → St → Prop} (τ : St) (hcov : Cov σ τ) (h : wpDraw E C ops.toList (Q .normal) ops.toList 0 [] τ) : C.LW (.seq (.label 0) (.region id ops true)) Q σ := by
  subst hC
  refine ⟨fun h => (by cases h), fun l r e => ?_⟩
  cases e
  intro ρ a w hc hr
  exact draw_sound hE hm (K := Q .normal) (fun a w σ hq hr => ⟨σ, hq, hr⟩) (opsOk_iff hc) h (hcov ρ a w hr)
end
end Go.Vm
/- Functions: a body that does what is said makes the contract. -/
namespace Go.Vm
section
variable {P : Program} {E : TE} {w : World} {σ : St} {Λ : Lam} {imm : Set} {F : Key → Set} {ρ : Env} {a : Act}

/-- what is known of a slot, written down -/
theorem RelX.know (h : RelX ρ σ a w imm Λ F) {t : Nat} {x : A} (hx : CR w imm (some Λ) x (Vm.slotv ρ a t) Set.no) : RelX ρ (σ.upd1 (.s t x)) a w imm Λ F := by
  refine { h with slots := fun u => ?_ }
  show CR w imm (some Λ) (lkS ((t, x) :: σ.slots) u) _ _
  rw [lkS_cons]
  by_cases e : u = t
  · subst e; rw [if_pos rfl]; exact hx
  · rw [if_neg e]; exact h.slots u

theorem entry_sound {k : St → Prop} : ∀ (ds : List A) (i : Nat) (us : List Value) (σ : St) (Λ : Lam) (F : Key → Set) (T : Set), RelX ρ σ a w imm Λ F → ValsR w imm none ds us T → Hand F imm (Mine ρ w) T →
    (∀ j, j < us.length → us[j]? = some (slotv ρ a (i + j)) ∧ us[j]? = some (slotv ρ a (1000000 + (i + j)))) → entry (real P) i ds σ k → ∃ σ', k σ' ∧ Rel ρ σ' a w
  | [], i, us, σ, Λ, F, T, h, hv, hH, hs, hh => ⟨σ, hh, imm, Λ, F, h⟩
  | d :: ds, i, [], σ, Λ, F, T, h, hv, hH, hs, hh => by simp only [ValsR] at hv
  | d :: ds, i, u :: us, σ, Λ, F, T, h, hv, hH, hs, hh => by
    simp only [ValsR] at hv
    obtain ⟨T1, T2, hd, hv, h1, h2, h12⟩ := hv
    simp only [entry] at hh
    obtain ⟨ws, as, Λ', F', r1, r2, r3, r4, r5⟩ := imp_sound i 12 0 [d] [u] _ σ Λ F T1 _ h (ValsR.of_one hd) (hH.le h1) hh
    obtain ⟨c, rfl, hc⟩ := ValsR.single r4
    have h0 := hs 0 (by simp)
    simp only [List.getElem?_cons_zero, Option.some.injEq, Nat.add_zero] at h0
    have k1 := r2.know (t := i) (x := c) (by rw [← h0.1]; exact hc)
    have k2 := k1.know (t := 1000000 + i) (x := c) (by rw [← h0.2]; exact hc)
    have hH2 : Hand F' imm (Mine ρ w) T2 := ⟨fun κ b hb hb2 => by
        rcases r5 κ b hb2 with h' | h'
        · exact hH.dis κ b (h2 b hb) h'
        · exact h12 b h' hb, (hH.le h2).imm, (hH.le h2).pool⟩
    have r1' : entry (real P) (i + 1) ds (σ.upd (ws ++ [.s i c, .s (1000000 + i) c])) k := r1
    rw [upd_append] at r1'
    refine entry_sound ds (i + 1) us _ Λ' F' T2 k2 hv hH2 (fun j hj => ?_) r1'
    have := hs (j + 1) (by simpa using hj)
    simpa [Nat.add_assoc, Nat.add_comm 1 j] using this

theorem slotsOf_sound (h : RelX ρ σ a w imm Λ F) {K : List W → Prop} : ∀ {ts : List Nat} {f : List A → Pg}, (slotsOf ts f).holds σ K → ∃ vs, (f vs).holds σ K ∧ ValsR w imm (some Λ) vs (ts.map (slotv ρ a)) Set.no
  | [], f, hh => ⟨[], hh, by simp [ValsR]⟩
  | t :: ts, f, hh => by
    obtain ⟨vs, h1, h2⟩ := slotsOf_sound h (ts := ts) hh
    exact ⟨_ :: vs, h1, by simp only [List.map_cons, ValsR]; exact ⟨Set.no, Set.no, h.slots t, h2, Set.le_refl _, Set.le_refl _, Set.no_dis _⟩⟩

def resultOf (vs : Array Value) : Value := if h : vs.size = 1 then vs[0] else .tuple vs
theorem tupOf_R {imm : Set} {x : Option Lam} {rds : List A} {vs : List Value} {S : Set} (h : ValsR w imm x rds vs S) : CR w imm x (tupOf rds) (resultOf vs.toArray) S := by
  match rds, vs, h with
  | [], [], h => simp only [tupOf, resultOf, CR]; exact ⟨[], by simp, by simp only [ValsR]⟩
  | [c], [v], h =>
    simp only [ValsR] at h
    obtain ⟨S1, S2, h1, _, h3, _⟩ := h
    exact h1.mono h3
  | c :: c' :: cs, v :: v' :: vs, h => simp only [tupOf, resultOf, CR]; exact ⟨v :: v' :: vs, by simp, h⟩
  | [], _ :: _, h => simp only [ValsR] at h
  | _ :: _, [], h => simp only [ValsR] at h
  | [_], _ :: _ :: _, h => simp only [ValsR] at h; obtain ⟨_, _, _, h, _⟩ := h; exact h.elim
  | _ :: _ :: _, [_], h => simp only [ValsR] at h; obtain ⟨_, _, _, h, _⟩ := h; exact h.elim

def resOne (tmps : Array Value) : ResultVar → Go.Sem Value
  | .tmp t => pure (tmps.getD t undef)
  | .cell a t => do loadVar t (← asAddr (tmps.getD a undef))
def resVal (tmps : Array Value) : ResultVar → Value
  | .tmp t => tmps.getD t undef
  | .cell _ _ => undef
theorem results_eq (fn : Func) (tmps : Array Value) : results fn tmps = (fn.results.mapM (resOne tmps) >>= fun vs => pure (resultOf vs)) := by
  unfold results
  have he : (fun (x : ResultVar) => match x with
      | .tmp t => (pure (tmps.getD t undef) : Go.Sem Value)
      | .cell a t => (asAddr (tmps.getD a undef) >>= fun ad => loadVar t ad)) = resOne tmps := by funext x; cases x <;> rfl
  exact congrArg (fun g => (Array.mapM g fn.results >>= fun vs => (pure (resultOf vs) : Go.Sem Value))) he
theorem run_results {fn : Func} {ts : List Nat} (h : fn.results.toList = ts.map .tmp) (tmps : Array Value) : (results fn tmps).run P w = .ok (resultOf (ts.map (tmps.getD · undef)).toArray) w := by
  have hm : (fn.results.mapM (resOne tmps)).run P w = .ok (ts.map (tmps.getD · undef)).toArray w := by
    rw [run_mapMA (P := P) (w := w) (f := resOne tmps) (g := resVal tmps) fn.results (fun x hx => by
        rw [h] at hx
        obtain ⟨t, _, rfl⟩ := List.mem_map.1 hx
        simp [resOne, resVal]), h, List.map_map]
    rfl
  rw [results_eq, Sem.run_bind, hm]
  rfl

theorem fun_of_body (hE : EOk P E) (hm : P.follows .mixedOrders = true) {f : FuncId} {fn : Func} {c : Code} {ts : List Nat} {rm : List Mode} {gs : List Nat} {pm : List Mode} {ds post : List A} {r : A} (hf : P.funcs[f]? = some fn) (hname : (fn.name == "runtime.NumGoroutine") = false) (hb : fn.body = some c)
    (hres : fn.results.toList = ts.map .tmp) (hcode : codeOk fn.ntmps c = true) (hn : fn.ntmps ≤ 1000000) (hds : ds.length ≤ fn.ntmps) (hgs : gs = (List.range ds.length).map (1000000 + ·)) (hts : ∀ t ∈ ts, t < 1000000)
    (h : body E (real P) c ts rm gs pm ds post r) : FunW P f ds post r := by
  refine ⟨⟨fn, hf, hname, by simp [hb]⟩, fun w imm S vs hv hSi himm hS => ?_⟩
  refine calls_of_wp hf hb ?_
  have hvl := hv.length
  let ρ : Env := ⟨w, S, imm, fn.ntmps, vs⟩
  let a : Act := { tmps := vs.toArray ++ Array.replicate (fn.ntmps - vs.toArray.size) undef, defers := [] }
  have h0 : RelX ρ ⟨[], []⟩ a w imm (fun _ => ⟨0, .gone, 0, 0⟩) (fun _ => Set.no) :=
    { size := by show (vs.toArray ++ Array.replicate (fn.ntmps - vs.toArray.size) undef).size = fn.ntmps
                 simp; omega
      nlt := hn
      slots := fun t => by simp only [lkS, CR]
      nodes := fun κ => ⟨rfl, rfl⟩
      dis := fun _ _ _ => Set.no_dis _
      fimm := fun _ => Set.no_dis _
      flt := fun _ _ z => z.elim
      immlt := fun b hb => ⟨himm b hb, .inl hb⟩
      imm0 := Set.le_refl _
      keep := fun _ _ _ => rfl
      grow := Nat.le_refl _
      os := ⟨rfl, rfl, rfl, SizesKept.refl w⟩
      defers := rfl }
  have hslot : ∀ j, j < vs.length → vs[j]? = some (slotv ρ a j) ∧ vs[j]? = some (slotv ρ a (1000000 + j)) := by
    intro j hj
    have hj2 : j < 1000000 := by omega
    constructor
    · unfold slotv
      rw [if_pos hj2]
      show _ = some ((vs.toArray ++ Array.replicate (fn.ntmps - vs.toArray.size) undef).getD j undef)
      rw [Array.getD_eq_getD_getElem?, Array.getElem?_append_left (by simpa using hj)]
      simp [hj]
    · unfold slotv
      rw [if_neg (by omega)]
      show _ = some (vs.getD (1000000 + j - 1000000) undef)
      rw [show 1000000 + j - 1000000 = j by omega]
      simp [hj]
  obtain ⟨σ, hw, hr⟩ := entry_sound (P := P) ds 0 vs _ _ _ S h0 hv ⟨fun _ _ _ z => z, hSi, fun b hb => ⟨hS b hb, .inl hb⟩⟩ (fun j hj => by simpa using hslot j hj) h
  refine wp_mono (wpC_sound hE hm c _ σ hw ρ a w hcode hr) ?_
  intro e a' w' hq
  have fin : (∃ σ', (retPg (real P) ts rm gs pm post r).holds σ' (fun _ => True) ∧ Rel ρ σ' a' w') → bodyPost P fn (fun
      | .returned v, w' => ∃ imm' T1 T2, Set.le imm imm' ∧ ValsR w' imm' none post vs T1 ∧ CR w' imm' none r v T2 ∧ Set.dis T1 T2 ∧ Set.dis T1 imm' ∧ Set.dis T2 imm' ∧
          (∀ b, T1 b ∨ T2 b → b < w'.heap.size ∧ (S b ∨ w.heap.size ≤ b)) ∧ (∀ b, imm' b → b < w'.heap.size ∧ (imm b ∨ S b ∨ w.heap.size ≤ b)) ∧
          (∀ b, b < w.heap.size → ¬ S b → w'.heap[b]? = w.heap[b]?) ∧ w.heap.size ≤ w'.heap.size ∧ w'.os = w.os ∧ w'.output = w.output ∧ w'.tape = w.tape ∧ SizesKept w w'
      | .panicked _, _ => False
      | .outgrown, _ => False) .ret a' w' := by
    rintro ⟨σ', hh, imm0, Λ', F', hX⟩
    obtain ⟨rvs, hh1, hrv⟩ := slotsOf_sound hX hh
    obtain ⟨as, hh2, has⟩ := slotsOf_sound hX hh1
    have hP0 : Phase σ' Λ' (fun b => ∃ κ, F' κ b) σ' w' imm0 F' := ⟨fun _ => rfl, fun κ => .inr (hX.nodes κ), hX.dis, hX.fimm, fun κ b hb => ⟨κ, hb⟩⟩
    obtain ⟨ws1, rds, imm1, F1, S1, q1, q2, q3, q4, q5, q6, q7, q8, _⟩ := expoArgs_sound rvs rm _ _ σ' imm0 F' _ hP0 hrv hh2
    obtain ⟨ws2, pds, imm2, F2, S2, p1, p2, p3, p4, p5, p6, p7, p8, _⟩ := expoArgs_sound as pm _ _ _ imm1 F1 _ q2 (ValsR.stable q3 (fun _ _ => rfl) _ _ _ _ _ _ (LamLe?.refl _) (Set.le_refl _) (fun _ _ => rfl) has) q1
    obtain ⟨⟨rfl, rfl⟩, _⟩ := p1
    have hgv : gs.map (slotv ρ a') = vs := by
      rw [hgs]
      apply List.ext_getElem?
      intro j
      simp only [List.map_map, List.getElem?_map]
      rcases Nat.lt_or_ge j vs.length with hj | hj
      · rw [List.getElem?_range (by omega)]
        simp only [Option.map_some, Function.comp]
        unfold slotv
        rw [if_neg (by omega)]
        show some (vs.getD (1000000 + j - 1000000) undef) = _
        rw [show 1000000 + j - 1000000 = j by omega]
        simp [hj]
      · rw [List.getElem?_eq_none (by simp; omega), List.getElem?_eq_none hj]; rfl
    have htv : ts.map (slotv ρ a') = ts.map (a'.tmps.getD · undef) := by
      apply List.map_congr_left
      intro t ht
      unfold slotv
      rw [if_pos (hts t ht)]
    rw [hgv] at p4
    rw [htv] at q4
    refine ⟨hX.defers, _, run_results hres a'.tmps, imm2, S2, S1, Set.le_trans hX.imm0 (Set.le_trans q3 p3), p4, ?_, fun b hb hb2 => ?_, p5.imm, fun b hb hb2 => ?_, fun b hb => ?_, fun b hb => ?_, hX.keep, hX.grow, hX.os⟩
    · exact CR.stable p3 (fun _ _ => rfl) none none _ _ _ _ trivial (Set.le_refl _) (fun _ _ => rfl) (tupOf_R q4)
    · obtain ⟨κ, hk⟩ := p8 b hb
      exact q5.dis κ b hb2 hk
    · rcases p6 b hb2 with h' | ⟨κ, h'⟩
      · exact q5.imm b hb h'
      · exact q5.dis κ b hb h'
    · have : ∃ κ, F' κ b := by
        rcases hb with hb | hb
        · obtain ⟨κ, hk⟩ := p8 b hb; exact ⟨κ, q7 κ b hk⟩
        · exact q8 b hb
      obtain ⟨κ, hk⟩ := this
      exact hX.flt κ b hk
    · have : imm0 b ∨ ∃ κ, F' κ b := by
        rcases p6 b hb with h' | ⟨κ, h'⟩
        · exact q6 b h'
        · exact .inr ⟨κ, q7 κ b h'⟩
      rcases this with h' | ⟨κ, hk⟩
      · exact hX.immlt b h'
      · exact ⟨(hX.flt κ b hk).1, .inr (hX.flt κ b hk).2⟩
  cases e with
  | normal => exact fin hq
  | ret => exact fin hq
  | exit id => obtain ⟨_, h', _⟩ := hq; exact h'.elim
  | _ => exact hq.elim
end
end Go.Vm
/- A state that says less: slots forgotten, nodes renamed or frozen, nothing taken for a row of the frame's own. -/
namespace Go.Vm

def findK (κ : Key) : List (Key × Key) → Option Key
  | [] => none
  | (x, y) :: l => if Nat.beq κ.1 x.1 then (if Nat.beq κ.2 x.2 then some y else findK κ l) else findK κ l
def isK (x : Option Key) (κ : Key) : Bool := match x with
  | some y => if Nat.beq y.1 κ.1 then Nat.beq y.2 κ.2 else false
  | none => false
def valsIn (κ : Key) : List (Key × Key) → Bool
  | [] => false
  | (_, y) :: l => if isK (some y) κ then true else valsIn κ l
def injK : List (Key × Key) → Bool
  | [] => true
  | (_, y) :: l => if valsIn y l then false else injK l

def isNil : Value → Bool
  | .slice none 0 0 => true
  | _ => false
theorem isNil_iff {v : Value} (h : isNil v = true) : v = .slice none 0 0 := by
  unfold isNil at h
  split at h
  · rfl
  · cases h
mutual
def covA (ms : List (Key × Key)) (σ τ : St) (x : A) : A → Prop
  | .hole => True
  | .ref κ' g' i' n' => match x with
    | .ref κ g i n => isK (findK κ' ms) κ = true ∧ (lkN σ.heap κ.1 κ.2).gen = g ∧ (lkN τ.heap κ'.1 κ'.2).gen = g' ∧ i' = i ∧ n' = n
    | .lit v => isNil v = true ∧ findK κ' ms = none ∧ (lkN τ.heap κ'.1 κ'.2).gen = g' ∧ i' = 0 ∧ n' = 0
    | _ => False
  | .mptr κ' g' i' o' => match x with
    | .mptr κ g i o => isK (findK κ' ms) κ = true ∧ (lkN σ.heap κ.1 κ.2).gen = g ∧ (lkN τ.heap κ'.1 κ'.2).gen = g' ∧ i' = i ∧ o' = o
    | _ => False
  | .tree rows => match x with
    | .tree r => rows = r
    | .lit v => isNil v = true ∧ rows = []
    | .emp => rows = []
    | _ => False
  | .agg ds => match x with
    | .agg cs => covL ms σ τ cs ds
    | _ => False
  | .tup ds => match x with
    | .tup cs => covL ms σ τ cs ds
    | _ => False
  | .clo g ds => match x with
    | .clo f cs => f = g ∧ covL ms σ τ cs ds
    | _ => False
  | .lit u => match x with
    | .lit v => u = v
    | _ => False
  | .emp => match x with
    | .emp => True
    | _ => False
  | .iptr s p => match x with
    | .iptr r o => s = r ∧ p = o
    | _ => False
  | _ => False
def covL (ms : List (Key × Key)) (σ τ : St) : List A → List A → Prop
  | [], [] => True
  | c :: cs, d :: ds => covA ms σ τ c d ∧ covL ms σ τ cs ds
  | _, _ => False
end
/-- cells where nil slices are taken for empty rows of one's own -/
inductive NilCells : List A → List A → Prop
  | nil : NilCells [] []
  | same (c : A) {cs ds : List A} (h : NilCells cs ds) : NilCells (c :: cs) (c :: ds)
  | nilc (k : Nat) {cs ds : List A} (h : NilCells cs ds) : NilCells (.lit (.slice none 0 0) :: cs) (.inl k [] :: ds)
inductive NilRows : Rows → Rows → Prop
  | same (r : Rows) : NilRows r r
  | rep (n : Nat) {z z' : List A} (h : NilCells z z') : NilRows (List.replicate n z) (List.replicate n z')
@[simp] theorem nilRows_same (r : Rows) : NilRows r r := .same r
@[simp] theorem nilRows_rep (n : Nat) {z z' : List A} (h : NilCells z z') : NilRows (List.replicate n z) (List.replicate n z') := .rep n h
@[simp] theorem nilCells_nil : NilCells [] [] := .nil
@[simp] theorem nilCells_same (c : A) (cs ds : List A) : NilCells (c :: cs) (c :: ds) ↔ NilCells cs ds := ⟨fun h => by cases h; assumption, .same c⟩
@[simp] theorem nilCells_nilc (k : Nat) (cs ds : List A) : NilCells (.lit (.slice none 0 0) :: cs) (.inl k [] :: ds) ↔ NilCells cs ds := ⟨fun h => by cases h; assumption, .nilc k⟩
theorem NilCells.ok {w : World} {imm : Set} {b : Nat} {cs ds : List A} (h : NilCells cs ds) : ds.length = cs.length ∧ ∀ (o : Nat) (S : Set), CellsR w imm none cs b o S → CellsR w imm none ds b o S := by
  induction h with
  | nil => exact ⟨rfl, fun _ _ h => h⟩
  | same c _ ih =>
    refine ⟨by simp [ih.1], fun o S h => ?_⟩
    simp only [CellsR] at h ⊢
    obtain ⟨v, S1, S2, h1, h2, h3, h4⟩ := h
    exact ⟨v, S1, S2, h1, h2, ih.2 _ _ h3, h4⟩
  | nilc k _ ih =>
    refine ⟨by simp [ih.1], fun o S h => ?_⟩
    simp only [CellsR] at h ⊢
    obtain ⟨v, S1, S2, h1, h2, h3, h4⟩ := h
    refine ⟨v, S1, S2, h1, ?_, ih.2 _ _ h3, h4⟩
    simp only [CR] at h2 ⊢
    subst h2
    exact ⟨none, 0, by simp, .inl ⟨rfl, rfl, trivial⟩⟩
theorem NilRows.ok {w : World} {imm : Set} {b : Nat} {rs rs' : Rows} (h : NilRows rs rs') : rs'.length = rs.length ∧ ∀ (o k : Nat) (S : Set), RowsR w imm none rs b o k S → RowsR w imm none rs' b o k S := by
  cases h with
  | same => exact ⟨rfl, fun _ _ _ h => h⟩
  | rep n h =>
    refine ⟨by simp, ?_⟩
    obtain ⟨h1, h2⟩ := h.ok (w := w) (imm := imm) (b := b)
    induction n with
    | zero => exact fun _ _ _ h => h
    | succ n ih =>
      intro o k S hr
      simp only [List.replicate_succ, RowsR] at hr ⊢
      obtain ⟨S1, S2, g1, g2, g3, g4⟩ := hr
      exact ⟨S1, S2, by rw [h1]; exact g1, h2 _ _ g2, ih _ _ _ g3, g4⟩
/-- cells that lead to no node -/
def allData : List A → Bool
  | [] => true
  | .lit _ :: l | .emp :: l | .tree _ :: l => allData l
  | _ => false
theorem CellsR.data {w : World} {imm : Set} {Λ : Lam} {b : Nat} : ∀ {cs : List A} {o : Nat} {S : Set}, allData cs = true → CellsR w imm (some Λ) cs b o S → CellsR w imm none cs b o Set.no
  | [], _, _, _, _ => by simp only [CellsR]
  | c :: cs, o, S, hd, h => by
    simp only [CellsR] at h ⊢
    obtain ⟨v, S1, S2, h1, h2, h3, _⟩ := h
    have hc : CR w imm none c v Set.no ∧ allData cs = true := by
      cases c <;> simp only [allData] at hd <;> first | (cases hd; done) | (refine ⟨?_, hd⟩; simp only [CR] at h2 ⊢; exact h2)
    exact ⟨v, Set.no, Set.no, h1, hc.1, CellsR.data hc.2 h3, Set.no_le _, Set.no_le _, Set.no_dis _⟩
def covN (ms : List (Key × Key)) (σ τ : St) : HN → HN → Prop
  | _, .dead _ => True
  | .box _ cs, .box _ ds => covL ms σ τ cs ds
  | .arr _ k rows, .arr _ k' rows' => k' = k ∧ NilRows rows rows'
  | .opn _ k rows i row, .opn _ k' rows' i' row' => k' = k ∧ rows' = rows ∧ i' = i ∧ covL ms σ τ row row'
  | .fbox _ cs, .fbox _ ds => ds = cs
  | .box _ cs, .fbox _ ds => ds = cs ∧ allData cs = true
  | .farr _ k rows, .farr _ k' rows' => k' = k ∧ rows' = rows
  | .arr _ k rows, .farr _ k' rows' => k' = k ∧ rows' = fzRows rows
  | _, _ => False
def covS (ms : List (Key × Key)) (σ τ : St) : List (Nat × A) → Prop
  | [] => True
  | (t, b) :: l => covA ms σ τ (lkS σ.slots t) b ∧ covS ms σ τ l
def covH (ms : List (Key × Key)) (σ τ : St) : List (Key × HN) → Prop
  | [] => True
  | (κ', n) :: l => (match findK κ' ms with
      | some κ => covN ms σ τ (lkN σ.heap κ.1 κ.2) n
      | none => match n with
        | .arr _ _ rows => rows = []
        | .dead _ => True
        | _ => False) ∧ covH ms σ τ l
def covOk (ms : List (Key × Key)) (σ τ : St) : Prop := injK ms = true ∧ covS ms σ τ τ.slots ∧ covH ms σ τ τ.heap

theorem isK_iff (x : Option Key) (κ : Key) : isK x κ = true ↔ x = some κ := by
  obtain ⟨a, b⟩ := κ
  cases x with
  | none => simp [isK]
  | some y =>
    obtain ⟨c, d⟩ := y
    simp [isK]
theorem findK_mem {κ y : Key} : ∀ {l : List (Key × Key)}, findK κ l = some y → (κ, y) ∈ l
  | (x, z) :: l, h => by
    obtain ⟨a, b⟩ := κ
    obtain ⟨c, d⟩ := x
    simp only [findK] at h
    split at h
    · rename_i h1
      split at h
      · rename_i h2
        cases h
        rw [Nat.eq_of_beq_eq_true h1, Nat.eq_of_beq_eq_true h2]
        exact List.mem_cons_self
      · exact List.mem_cons_of_mem _ (findK_mem h)
    · exact List.mem_cons_of_mem _ (findK_mem h)
theorem valsIn_iff (κ : Key) : ∀ l : List (Key × Key), valsIn κ l = true ↔ ∃ x, (x, κ) ∈ l
  | [] => by simp [valsIn]
  | (x, y) :: l => by
    simp only [valsIn]
    by_cases h : isK (some y) κ = true
    · rw [if_pos h]
      have := (isK_iff _ _).1 h
      cases this
      simp only [true_iff]
      exact ⟨x, List.mem_cons_self⟩
    · rw [if_neg h, valsIn_iff κ l]
      have : y ≠ κ := fun e => h ((isK_iff _ _).2 (by rw [e]))
      constructor
      · rintro ⟨z, hz⟩; exact ⟨z, List.mem_cons_of_mem _ hz⟩
      · rintro ⟨z, hz⟩
        rcases List.mem_cons.1 hz with e | hz
        · cases e; exact absurd rfl this
        · exact ⟨z, hz⟩
theorem injK_ok {y : Key} : ∀ {l : List (Key × Key)} {x x' : Key}, injK l = true → (x, y) ∈ l → (x', y) ∈ l → x = x'
  | (z, u) :: l, x, x', hi, h, h' => by
    simp only [injK] at hi
    split at hi
    · cases hi
    · rename_i hv
      have hno : ∀ q, (q, u) ∉ l := fun q hq => hv ((valsIn_iff u l).2 ⟨q, hq⟩)
      rcases List.mem_cons.1 h with e | h1
      · cases e
        rcases List.mem_cons.1 h' with e | h2
        · cases e; rfl
        · exact absurd h2 (hno x')
      · rcases List.mem_cons.1 h' with e | h2
        · cases e; exact (hno x h1).elim
        · exact injK_ok hi h1 h2

section
variable {w : World} {σ τ : St} {ms : List (Key × Key)} {ρ : Env} {a : Act} {imm : Set} {Λ : Lam} {F : Key → Set}

/-- how the nodes are known after -/
def covLam (ms : List (Key × Key)) (τ : St) (Λ : Lam) : Lam := fun κ' => match findK κ' ms, lkN τ.heap κ'.1 κ'.2 with
  | _, .dead g => ⟨g, .gone, 0, 0⟩
  | some κ, n => { Λ κ with gen := n.gen }
  | none, .arr g k _ => ⟨g, .nil, k, 0⟩
  | none, n => ⟨n.gen, .gone, 0, 0⟩
def keeps : HN → Bool
  | .dead _ | .farr _ _ _ | .fbox _ _ => false
  | _ => true
def covF (ms : List (Key × Key)) (τ : St) (F : Key → Set) : Key → Set := fun κ' => match findK κ' ms with
  | some κ => if keeps (lkN τ.heap κ'.1 κ'.2) then F κ else Set.no
  | none => Set.no
def covI (ms : List (Key × Key)) (τ : St) (F : Key → Set) (imm : Set) : Set := fun b => imm b ∨ ∃ κ' κ, findK κ' ms = some κ ∧ keeps (lkN τ.heap κ'.1 κ'.2) = false ∧ F κ b

theorem covRef {imm : Set} {κ κ' : Key} {g g' i n : Nat} {u : Value} (hk : isK (findK κ' ms) κ = true) (hg : (lkN σ.heap κ.1 κ.2).gen = g) (hg' : (lkN τ.heap κ'.1 κ'.2).gen = g') (h : RelX ρ σ a w imm Λ F) (hr : RefR (Λ κ) g i n u) : RefR (covLam ms τ Λ κ') g' i n u := by
  have hf := (isK_iff _ _).1 hk
  have hgen := genOf h κ
  have h1 := hr.2.1 (by rw [hgen, hg])
  unfold covLam
  rw [hf]
  cases hn : lkN τ.heap κ'.1 κ'.2 with
  | dead q => rw [hn] at hg'; simp only [HN.gen] at hg'; subst hg'; exact ⟨Nat.le_refl _, fun _ => trivial, hr.2.2⟩
  | _ => rw [hn] at hg'; subst hg'; exact ⟨Nat.le_refl _, fun _ => h1, hr.2.2⟩
theorem covPtr {imm : Set} {κ κ' : Key} {g g' i o : Nat} {u : Value} (hk : isK (findK κ' ms) κ = true) (hg : (lkN σ.heap κ.1 κ.2).gen = g) (hg' : (lkN τ.heap κ'.1 κ'.2).gen = g') (h : RelX ρ σ a w imm Λ F) (hr : PtrR (Λ κ) g i o u) : PtrR (covLam ms τ Λ κ') g' i o u := by
  have hf := (isK_iff _ _).1 hk
  have hgen := genOf h κ
  have h1 := hr.2.1 (by rw [hgen, hg])
  unfold covLam
  rw [hf]
  cases hn : lkN τ.heap κ'.1 κ'.2 with
  | dead q => rw [hn] at hg'; simp only [HN.gen] at hg'; subst hg'; exact ⟨Nat.le_refl _, fun _ => trivial, hr.2.2⟩
  | _ => rw [hn] at hg'; subst hg'; exact ⟨Nat.le_refl _, fun _ => h1, hr.2.2⟩

def NewOk (ms : List (Key × Key)) (τ : St) : Prop := ∀ κ' : Key, findK κ' ms = none → (match lkN τ.heap κ'.1 κ'.2 with | .arr _ _ rows => rows = [] | .dead _ => True | _ => False)
mutual
theorem covA_R (h : RelX ρ σ a w imm Λ F) (hN : NewOk ms τ) {imm' : Set} (hi : Set.le imm imm') : ∀ (x y : A) (v : Value) (S : Set), covA ms σ τ x y → CR w imm (some Λ) x v S → CR w imm' (some (covLam ms τ Λ)) y v S
  | x, .hole, v, S, _, _ => by simp only [CR]
  | x, .ref κ' g' i' n', v, S, hc, hx => by
    cases x <;> simp only [covA] at hc
    · rename_i u
      obtain ⟨h0, h1, h2, rfl, rfl⟩ := hc
      have := isNil_iff h0
      subst this
      have hv := CR_lit hx
      subst hv
      simp only [CR]
      have hn := hN κ' h1
      unfold covLam
      rw [h1]
      cases hq : lkN τ.heap κ'.1 κ'.2 with
      | dead q => rw [hq] at h2; simp only [HN.gen] at h2; subst h2; exact ⟨Nat.le_refl _, fun _ => trivial, _, _, _, rfl⟩
      | arr g k rows => rw [hq] at h2; simp only [HN.gen] at h2; subst h2; exact ⟨Nat.le_refl _, fun _ => ⟨rfl, rfl, rfl⟩, _, _, _, rfl⟩
      | _ => rw [hq] at hn; exact hn.elim
    · simp only [CR] at hx ⊢
      obtain ⟨h1, h2, h3, rfl, rfl⟩ := hc
      exact covRef h1 h2 h3 h hx
  | x, .mptr κ' g' i' n', v, S, hc, hx => by
    cases x <;> simp only [covA] at hc
    simp only [CR] at hx ⊢
    obtain ⟨h1, h2, h3, rfl, rfl⟩ := hc
    exact covPtr h1 h2 h3 h hx
  | x, .tree rows, v, S, hc, hx => by
    cases x <;> simp only [covA] at hc
    · obtain ⟨h0, rfl⟩ := hc
      have := isNil_iff h0
      subst this
      have hv := CR_lit hx
      subst hv
      simp only [CR]
      exact ⟨none, 0, rfl, Nat.le_refl _, .inl trivial⟩
    · subst hc
      simp only [CR] at hx ⊢
      obtain ⟨ad, e⟩ := hx
      exact ⟨ad, 0, e, Nat.le_refl _, .inl trivial⟩
    · subst hc
      exact CR.any _ _ _ _ _ _ (CR.stable hi (fun _ _ => rfl) none none _ _ _ _ trivial (Set.le_refl _) (fun _ _ => rfl) (show CR w imm none (.tree rows) v S by simp only [CR] at hx ⊢; exact hx))
  | x, .agg ds, v, S, hc, hx => by
    cases x <;> simp only [covA] at hc
    simp only [CR] at hx ⊢
    obtain ⟨vs, e, hx⟩ := hx
    exact ⟨vs, e, covL_R h hN hi _ ds vs S hc hx⟩
  | x, .tup ds, v, S, hc, hx => by
    cases x <;> simp only [covA] at hc
    simp only [CR] at hx ⊢
    obtain ⟨vs, e, hx⟩ := hx
    exact ⟨vs, e, covL_R h hN hi _ ds vs S hc hx⟩
  | x, .clo g ds, v, S, hc, hx => by
    cases x <;> simp only [covA] at hc
    simp only [CR] at hx ⊢
    obtain ⟨rfl, hc⟩ := hc
    obtain ⟨vs, e, hx⟩ := hx
    exact ⟨vs, e, covL_R h hN hi _ ds vs _ hc hx⟩
  | x, .lit u, v, S, hc, hx => by
    cases x <;> simp only [covA] at hc
    subst hc
    simp only [CR] at hx ⊢; exact hx
  | x, .emp, v, S, hc, hx => by
    cases x <;> simp only [covA] at hc
    simp only [CR] at hx ⊢; exact hx
  | x, .iptr s p, v, S, hc, hx => by
    cases x <;> simp only [covA] at hc
    obtain ⟨rfl, rfl⟩ := hc
    exact CR.any _ _ _ _ _ _ (CR.stable hi (fun _ _ => rfl) none none _ _ _ _ trivial (Set.le_refl _) (fun _ _ => rfl) (show CR w imm none (.iptr s p) v S by simp only [CR] at hx ⊢; exact hx))
  | x, .inl _ _, v, S, hc, _ => by simp only [covA] at hc
  | x, .obox _, v, S, hc, _ => by simp only [covA] at hc
  | x, .optr _ _ _, v, S, hc, _ => by simp only [covA] at hc
theorem covL_R (h : RelX ρ σ a w imm Λ F) (hN : NewOk ms τ) {imm' : Set} (hi : Set.le imm imm') : ∀ (xs ys : List A) (vs : List Value) (S : Set), covL ms σ τ xs ys → ValsR w imm (some Λ) xs vs S → ValsR w imm' (some (covLam ms τ Λ)) ys vs S
  | [], [], [], S, _, _ => by simp only [ValsR]
  | x :: xs, y :: ys, v :: vs, S, hc, hx => by
    simp only [covL] at hc
    simp only [ValsR] at hx ⊢
    obtain ⟨S1, S2, h1, h2, h3⟩ := hx
    exact ⟨S1, S2, covA_R h hN hi x y v S1 hc.1 h1, covL_R h hN hi xs ys vs S2 hc.2 h2, h3⟩
  | [], _ :: _, _, _, hc, _ => by simp only [covL] at hc
  | _ :: _, [], _, _, hc, _ => by simp only [covL] at hc
  | [], [], _ :: _, _, _, hx => by simp only [ValsR] at hx
  | _ :: _, _ :: _, [], _, _, hx => by simp only [ValsR] at hx
end

theorem covL_C (h : RelX ρ σ a w imm Λ F) (hN : NewOk ms τ) {imm' : Set} (hi : Set.le imm imm') {xs ys : List A} {b o : Nat} {S : Set} (hc : covL ms σ τ xs ys) (hx : CellsR w imm (some Λ) xs b o S) : CellsR w imm' (some (covLam ms τ Λ)) ys b o S ∧ ys.length = xs.length := by
  obtain ⟨vs, h1, h2, h3⟩ := CellsR.vals _ _ _ hx
  have := covL_R h hN hi xs ys vs S hc h3
  exact ⟨CellsR.of_vals this h2, by rw [← this.length, h1]⟩

theorem covS_at {l : List (Nat × A)} : covS ms σ τ l → ∀ t, covA ms σ τ (lkS σ.slots t) (lkS l t) := by
  induction l with
  | nil => intro _ t; simp only [lkS, covA]
  | cons p l ih =>
    obtain ⟨u, b⟩ := p
    intro h t
    simp only [covS] at h
    rw [lkS_cons]
    by_cases e : t = u
    · subst e; rw [if_pos rfl]; exact h.1
    · rw [if_neg e]; exact ih h.2 t
theorem covH_at {l : List (Key × HN)} : covH ms σ τ l → ∀ κ' : Key, match findK κ' ms with
      | some κ => covN ms σ τ (lkN σ.heap κ.1 κ.2) (lkN l κ'.1 κ'.2)
      | none => match lkN l κ'.1 κ'.2 with
        | .arr _ _ rows => rows = []
        | .dead _ => True
        | _ => False := by
  induction l with
  | nil =>
    intro _ κ'
    cases hf : findK κ' ms with
    | some κ => simp only [lkN]; cases lkN σ.heap κ.1 κ.2 <;> simp only [covN]
    | none => simp only [lkN]
  | cons p l ih =>
    obtain ⟨u, n⟩ := p
    intro h κ'
    simp only [covH] at h
    rw [lkN_cons]
    by_cases e : κ' = u
    · subst e; rw [if_pos rfl]; exact h.1
    · rw [if_neg e]; exact ih h.2 κ'

theorem cov_of (ms : List (Key × Key)) (hc : covOk ms σ τ) : Cov σ τ := by
  rintro ρ a w ⟨imm, Λ, F, h⟩
  obtain ⟨hinj, hS, hH⟩ := hc
  have hat := covH_at hH
  have hN : NewOk ms τ := fun κ' hk => by have := hat κ'; rw [hk] at this; exact this
  have hi : Set.le imm (covI ms τ F imm) := fun b hb => .inl hb
  have inj : ∀ {κ1 κ2 y : Key}, findK κ1 ms = some y → findK κ2 ms = some y → κ1 = κ2 := fun h1 h2 => injK_ok hinj (findK_mem h1) (findK_mem h2)
  have hFsub : ∀ κ' b, covF ms τ F κ' b → ∃ κ, findK κ' ms = some κ ∧ keeps (lkN τ.heap κ'.1 κ'.2) = true ∧ F κ b := by
    intro κ' b hb
    cases hf : findK κ' ms with
    | none => simp only [covF, hf] at hb; exact hb.elim
    | some κ =>
      simp only [covF, hf] at hb
      cases hk : keeps (lkN τ.heap κ'.1 κ'.2) with
      | true => rw [hk] at hb; exact ⟨κ, rfl, rfl, hb⟩
      | false => rw [hk] at hb; exact hb.elim
  refine ⟨covI ms τ F imm, covLam ms τ Λ, covF ms τ F, { size := h.size, nlt := h.nlt, slots := fun t => covA_R h hN hi _ _ _ _ (covS_at hS t) (h.slots t), nodes := fun κ' => ?_, dis := fun κ1 κ2 hne b h1 h2 => ?_, fimm := fun κ' b hb hb2 => ?_, flt := fun κ' b hb => ?_, immlt := fun b hb => ?_, imm0 := Set.le_trans h.imm0 hi, keep := h.keep, grow := h.grow, os := h.os, defers := h.defers }⟩
  · have hk := hat κ'
    have hNR : ∀ κ, findK κ' ms = some κ → NR w imm Λ (Λ κ) (lkN σ.heap κ.1 κ.2) (F κ) := fun κ _ => h.nodes κ
    unfold covLam covF
    cases hf : findK κ' ms with
    | none =>
      rw [hf] at hk
      simp only at hk ⊢
      cases hq : lkN τ.heap κ'.1 κ'.2 with
      | dead g => exact ⟨rfl, rfl⟩
      | arr g k rows => rw [hq] at hk; simp only at hk; subst hk; exact ⟨rfl, rfl, rfl, .inl ⟨rfl, rfl⟩⟩
      | _ => rw [hq] at hk; exact hk.elim
    | some κ =>
      rw [hf] at hk
      have hn := hNR κ hf
      simp only at hk ⊢
      have hlam : covLam ms τ Λ = covLam ms τ Λ := rfl
      cases hq : lkN τ.heap κ'.1 κ'.2 with
      | dead g => exact ⟨rfl, rfl⟩
      | box g ds =>
        rw [hq] at hk
        cases hs : lkN σ.heap κ.1 κ.2 <;> rw [hs] at hk hn <;> simp only [covN] at hk
        obtain ⟨h1, h2, h3, b, base, size, S', h4, h5, h6, h7, h8, h9, h10⟩ := hn
        obtain ⟨q1, q2⟩ := covL_C h hN hi hk h10
        exact ⟨rfl, by rw [q2]; exact h2, h3, b, base, size, S', h4, by simpa [keeps] using h5, h6, by simpa [keeps] using h7, h8, by rw [q2]; exact h9, q1⟩
      | arr g k rows =>
        rw [hq] at hk
        cases hs : lkN σ.heap κ.1 κ.2 <;> rw [hs] at hk hn <;> simp only [covN] at hk
        obtain ⟨rfl, hk⟩ := hk
        obtain ⟨h1, h2, h3, h4⟩ := hn
        have hlen := (hk.ok (w := w) (imm := imm) (b := 0)).1
        refine ⟨rfl, h2, by rw [hlen]; exact h3, h4.imp (fun z => ⟨z.1, List.eq_nil_of_length_eq_zero (by rw [hlen, z.2]; rfl)⟩) ?_⟩
        rintro ⟨b, base, size, S', h5, h6, h7, h8, h9, h10, h11⟩
        replace h11 := (hk.ok (w := w) (imm := imm) (b := b)).2 _ _ _ h11
        exact ⟨b, base, size, S', h5, by simpa [keeps] using h6, h7, by simpa [keeps] using h8, h9, by rw [hlen]; exact h10, RowsR.stable hi (fun _ _ => rfl) none none _ _ _ _ _ _ trivial (Set.le_refl _) rfl (fun _ _ => rfl) h11⟩
      | opn g k rows i row =>
        rw [hq] at hk
        cases hs : lkN σ.heap κ.1 κ.2 <;> rw [hs] at hk hn <;> simp only [covN] at hk
        obtain ⟨rfl, rfl, rfl, hk⟩ := hk
        obtain ⟨h1, h2, h3, b, base, size, S1, S2, h4, h5, h6, h7, h8, h9, h10, h11, h12, h13, h14, h15, h16⟩ := hn
        obtain ⟨q1, q2⟩ := covL_C h hN hi hk h15
        exact ⟨rfl, h2, h3, b, base, size, S1, S2, h4, by simpa [keeps] using h5, h6, h7, by simpa [keeps] using h8, by simpa [keeps] using h9, h10, h11, h12, h13, by rw [q2]; exact h14, q1, RestR.stable hi (fun _ _ => rfl) rfl (fun _ _ => rfl) h16⟩
      | fbox g ds =>
        rw [hq] at hk
        cases hs : lkN σ.heap κ.1 κ.2 <;> rw [hs] at hk hn <;> simp only [covN] at hk
        · obtain ⟨rfl, hk⟩ := hk
          obtain ⟨h1, h2, h3, b, base, size, S', h4, h5, h6, h7, h8, h9, h10⟩ := hn
          exact ⟨rfl, h2, h3, b, base, size, h4, .inr ⟨κ', κ, hf, by rw [hq]; rfl, h5⟩, CellsR.stable hi (fun _ _ => rfl) none none _ _ _ _ _ trivial (Set.le_refl _) rfl (fun _ _ => rfl) (CellsR.data hk h10)⟩
        subst hk
        obtain ⟨h1, h2, h3, b, base, size, h4, h5, h6⟩ := hn
        exact ⟨rfl, h2, h3, b, base, size, h4, hi b h5, CellsR.stable hi (fun _ _ => rfl) none none _ _ _ _ _ trivial (Set.le_refl _) rfl (fun _ _ => rfl) h6⟩
      | farr g k rows =>
        rw [hq] at hk
        cases hs : lkN σ.heap κ.1 κ.2 <;> rw [hs] at hk hn <;> simp only [covN] at hk
        · obtain ⟨rfl, rfl⟩ := hk
          obtain ⟨h1, h2, h3, h4⟩ := hn
          refine ⟨rfl, h2, by rw [fzRows_len]; exact h3, ?_⟩
          rcases h4 with ⟨h5, rfl⟩ | ⟨b, base, size, S', h5, h6, h7, h8, h9, h10, h11⟩
          · exact .inl ⟨h5, rfl⟩
          · exact .inr ⟨b, base, size, h5, .inr ⟨κ', κ, hf, by rw [hq]; rfl, h6⟩, RowsR.freeze hi _ _ _ _ _ h11 (fun y hy => .inr ⟨κ', κ, hf, by rw [hq]; rfl, h8 y hy⟩)⟩
        · obtain ⟨rfl, rfl⟩ := hk
          obtain ⟨h1, h2, h3, h4⟩ := hn
          refine ⟨rfl, h2, h3, h4.imp id ?_⟩
          rintro ⟨b, base, size, h5, h6, h7⟩
          exact ⟨b, base, size, h5, hi b h6, RowsR.stable hi (fun _ _ => rfl) none none _ _ _ _ _ _ trivial (Set.le_refl _) rfl (fun _ _ => rfl) h7⟩
  · obtain ⟨y1, f1, _, hF1⟩ := hFsub κ1 b h1
    obtain ⟨y2, f2, _, hF2⟩ := hFsub κ2 b h2
    by_cases e : y1 = y2
    · subst e; exact hne (inj f1 f2)
    · exact h.dis y1 y2 e b hF1 hF2
  · obtain ⟨y1, f1, k1, hF1⟩ := hFsub κ' b hb
    rcases hb2 with hb2 | ⟨κ2, y2, f2, k2, hF2⟩
    · exact h.fimm y1 b hF1 hb2
    · by_cases e : y1 = y2
      · subst e
        have := inj f1 f2
        subst this
        rw [k1] at k2; cases k2
      · exact h.dis y1 y2 e b hF1 hF2
  · obtain ⟨y1, _, _, hF1⟩ := hFsub κ' b hb
    exact h.flt y1 b hF1
  · rcases hb with hb | ⟨κ2, y2, _, _, hF2⟩
    · exact h.immlt b hb
    · exact ⟨(h.flt y2 b hF2).1, .inr (h.flt y2 b hF2).2⟩
end
end Go.Vm
/- Type tables, checked by computation. -/
namespace Go.Vm

inductive Tr (α : Type) where
  | leaf
  | node (l : Tr α) (k : Nat) (v : α) (r : Tr α)
def Tr.get {α : Type} (d : α) : Tr α → Nat → α
  | .leaf, _ => d
  | .node l k v r, x => if Nat.beq x k then v else if Nat.blt x k then l.get d x else r.get d x
def Tr.all {α : Type} (p : Nat → α → Bool) : Tr α → Bool
  | .leaf => true
  | .node l k v r => if l.all p then (if p k v then r.all p else false) else false

def tdOkB : TypeDesc → TD → Bool
  | .int k, .int k' => k == k'
  | .bool, .bool => true
  | .string, .str => true
  | .slice e, .slice e' => e == e'
  | .pointer e, .ptr e' => e == e'
  | .struct fields, .struct fs => fields.toList.map (fun f => (f.offset, f.type)) == fs
  | .func _ _ _, .other => true
  | _, _ => false
/-- a zero cell -/
inductive Z where
  | int (k : IntKind) | bool | str | slice | ptr | func
def Z.val : Z → Value
  | .int k => .int k 0
  | .bool => .bool false
  | .str => .string ⟨#[]⟩
  | .slice => .slice none 0 0
  | .ptr => .pointer none
  | .func => .nilFunc
def Z.is : Z → Value → Bool
  | .int k, .int k' n => k == k' && n == 0
  | .bool, .bool b => !b
  | .str, .string s => s.data.size == 0
  | .slice, .slice none 0 0 => true
  | .ptr, .pointer none => true
  | .func, .nilFunc => true
  | _, _ => false
theorem Z.is_eq {z : Z} {v : Value} (h : z.is v = true) : v = z.val := by
  unfold Z.is at h
  split at h
  · simp only [Bool.and_eq_true, beq_iff_eq] at h; obtain ⟨rfl, rfl⟩ := h; rfl
  · rename_i b; cases b <;> simp at h; rfl
  · rename_i s
    obtain ⟨d⟩ := s
    have : d = #[] := Array.eq_empty_of_size_eq_zero (by simpa using h)
    subst this; rfl
  · rfl
  · rfl
  · rfl
  · cases h
def zsB : List Z → List Value → Bool
  | [], [] => true
  | z :: zs, v :: vs => if z.is v then zsB zs vs else false
  | _, _ => false
theorem zsB_eq : ∀ {zs : List Z} {vs : List Value}, zsB zs vs = true → vs = zs.map Z.val
  | [], [], _ => rfl
  | z :: zs, v :: vs, h => by
    simp only [zsB] at h
    split at h
    · rename_i h1; rw [Z.is_eq h1, zsB_eq h]; rfl
    · cases h
  | [], _ :: _, h => by cases h
  | _ :: _, [], h => by cases h

structure TZ where
  td : TD
  size : Nat
  bytes : Nat
  zs : List Z
  flat : Bool
def TZ.info (x : TZ) : TI := ⟨x.td, x.size, x.bytes, x.zs.map fun z => .lit z.val, x.flat⟩
def flat3B (P : Program) (t : Nat) : Bool := !P.stoodInHeld t && !P.eqGuardType P.depth t && match P.underlying t with
  | some (.struct fs) => match fs.toList with
    | [f0, f1, f2] => f0.offset == 0 && f1.offset == 1 && f2.offset == 2 && f0.name != "_" && f1.name != "_" && f2.name != "_" && (match P.underlying f0.type, P.underlying f1.type, P.underlying f2.type with
      | some (.int _), some (.int _), some (.int _) => true
      | _, _, _ => false)
    | _ => false
  | _ => false
theorem flat3_ok {P : Program} {t : Nat} (h : flat3B P t = true) : Flat3 P t := by
  unfold flat3B at h
  simp only [Bool.and_eq_true, Bool.not_eq_true'] at h
  obtain ⟨⟨h1, h2⟩, h3⟩ := h
  split at h3
  · rename_i fs hu
    split at h3
    · rename_i f0 f1 f2 hfs
      simp only [Bool.and_eq_true, beq_iff_eq, bne_iff_ne, ne_eq] at h3
      obtain ⟨⟨⟨⟨⟨⟨a0, a1⟩, a2⟩, n0⟩, n1⟩, n2⟩, h3⟩ := h3
      split at h3
      · rename_i k0 k1 k2 e0 e1 e2
        have : fs = #[f0, f1, f2] := Array.ext' (by simpa using hfs)
        exact ⟨h1, h2, f0, f1, f2, k0, k1, k2, this ▸ hu, a0, a1, a2, n0, n1, n2, e0, e1, e2⟩
      · cases h3
    · cases h3
  · cases h3
def tokB (P : Program) (t : Nat) (x : TZ) : Bool := match P.info? t, P.underlying t with
  | some i, some d => match i.zero with
    | some z => i.size == x.size && i.bytes == x.bytes && tdOkB d x.td && zsB x.zs z.cells.toList && x.zs.length == x.size && (!x.flat || flat3B P t)
    | none => false
  | _, _ => false
theorem tdOkB_iff {d : TypeDesc} {td : TD} (h : tdOkB d td = true) : tdOk d td := by
  unfold tdOkB at h
  split at h <;> first | (cases h; done) | (simp only [tdOk]; exact beq_iff_eq.1 h) | (simp only [tdOk]; done)
theorem tokB_ok {P : Program} {t : Nat} {x : TZ} (h : tokB P t x = true) : TOk P t x.info ∧ FlatOk P t x.info := by
  unfold tokB at h
  split at h
  · rename_i i d hi hd
    split at h
    · rename_i z hz
      simp only [Bool.and_eq_true, beq_iff_eq] at h
      obtain ⟨⟨⟨⟨⟨h1, h2⟩, h3⟩, h4⟩, h5⟩, h6⟩ := h
      refine ⟨⟨i, d, z, hi, h1, h2, hd, tdOkB_iff h3, hz, ?_, ?_⟩, fun hf => ?_⟩
      · rw [zsB_eq h4]; simp [TZ.info]
      · simpa [TZ.info] using h5
      · have hf' : x.flat = true := hf
        rw [hf'] at h6
        exact flat3_ok (by simpa using h6)
    · cases h
  · cases h

theorem Tr.get_ok {α : Type} {d : α} {p : Nat → α → Bool} {Q : Nat → α → Prop} (hp : ∀ k v, p k v = true → Q k v) (hd : ∀ t, Q t d) : ∀ {T : Tr α}, T.all p = true → ∀ t, Q t (T.get d t)
  | .leaf, _, t => hd t
  | .node l k v r, h, t => by
    simp only [Tr.all] at h
    split at h
    · rename_i hl
      split at h
      · rename_i hk
        simp only [Tr.get]
        split
        · rename_i he
          rw [Nat.eq_of_beq_eq_true he]
          exact hp k v hk
        · split
          · exact Tr.get_ok hp hd hl t
          · exact Tr.get_ok hp hd h t
      · cases h
    · cases h

def TZ.none : TZ := ⟨.other, 0, 0, [], false⟩
theorem eok_of {P : Program} {T : Tr TZ} {sig : Nat → List Mode} {gap : List Nat} (h : T.all (tokB P) = true) : EOk P ⟨fun t => (T.get TZ.none t).info, sig, gap⟩ := by
  have none_ok : ∀ t, ((TZ.none.info.size ≠ 0 ∨ isOther TZ.none.info.td = false) → TOk P t TZ.none.info) ∧ FlatOk P t TZ.none.info := by
    refine fun t => ⟨fun h => ?_, fun h => ?_⟩
    · rcases h with h | h
      · exact absurd rfl h
      · cases h
    · cases h
  have := fun t => Tr.get_ok (p := tokB P) (Q := fun t x => ((x.info.size ≠ 0 ∨ isOther x.info.td = false) → TOk P t x.info) ∧ FlatOk P t x.info) (d := TZ.none) (fun k v hk => ⟨fun _ => (tokB_ok hk).1, (tokB_ok hk).2⟩) none_ok h t
  exact ⟨fun t ht => (this t).1 ht, fun t => (this t).2⟩

theorem loop_go {P : Program} {E : TE} {C : Ctx} (hC : C = real P) (hE : EOk P E) (hm : P.follows .mixedOrders = true) {c : Code} {Q : Ex → St → Prop} {σ : St} {ι : Type} (I : ι → St) (Inv : ι → Prop) (μ : ι → Nat) (i0 : ι) (hi : Inv i0) (h0 : Cov σ (I i0))
    (round : ∀ i (N : St → Prop), Inv i → (∀ σ' j, Inv j → μ j < μ i → Cov σ' (I j) → N σ') → wpC E C c (fun e σ' => match e with | .normal => N σ' | e => Q e σ') (I i)) (hmk : marked c = false) : C.LW c Q σ := by
  subst hC
  exact LWc_loop hmk <| loop_rule hE hm (ι := { i // Inv i }) (fun i => I i.1) (fun i => μ i.1) ⟨i0, hi⟩ h0 fun i => round i.1 _ i.2 fun σ' j hj h2 h1 => ⟨⟨j, hj⟩, h1, h2⟩

theorem wrap_ok {n : Int} (h : -9223372036854775808 ≤ n ∧ n < 9223372036854775808) : IntKind.i64.wrap n = n := by
  rw [IntKind.wrap_i64]; omega

def okB (fn : Func) (n : Nat) (ts : List Nat) : Bool := !(fn.name == "runtime.NumGoroutine") && !fn.body.isNone && codeOk fn.ntmps (fn.body.getD .skip) && Nat.ble fn.ntmps 1000000 && Nat.ble n fn.ntmps && ts.all fun t => Nat.blt t 1000000
theorem code_some {fn : Func} {c : Code} (h : fn.body.isNone = false) (hc : fn.body.getD .skip = c) : fn.body = some c := by
  cases hb : fn.body with
  | none => rw [hb] at h; cases h
  | some x => rw [hb] at hc; exact congrArg some hc
theorem fun_go {P : Program} {E : TE} (hE : EOk P E) (hm : P.follows .mixedOrders = true) {f : FuncId} {fn : Func} {ts : List Nat} {rm : List Mode} {gs : List Nat} {pm : List Mode} {ds post : List A} {r : A} (hf : P.funcs[f]? = some fn)
    (hok : okB fn ds.length ts = true) (hres : fn.results.toList = ts.map .tmp) (hgs : gs = (List.range ds.length).map (1000000 + ·))
    (h : ∀ Fn LW len cast toNat wrap add sub mul bin lt eq At set part app fz rep nadd nmax ssize sext sget scat seq slt Wide Flat Ones Room r' post', (⟨Fn, LW, len, cast, toNat, wrap, add, sub, mul, bin, lt, eq, At, set, part, app, fz, rep, nadd, nmax, ssize, sext, sget, scat, seq, slt, Wide, Flat, Ones, Room⟩ : Ctx) = real P →
      (∀ f ds post r, FunW P f ds post r → Fn f ds post r) → r' = r → post' = post →
      body E ⟨Fn, LW, len, cast, toNat, wrap, add, sub, mul, bin, lt, eq, At, set, part, app, fz, rep, nadd, nmax, ssize, sext, sget, scat, seq, slt, Wide, Flat, Ones, Room⟩ (fn.body.getD .skip) ts rm gs pm ds post' r') : FunW P f ds post r := by
  unfold okB at hok
  simp only [Bool.and_eq_true, Bool.not_eq_true'] at hok
  obtain ⟨⟨⟨⟨⟨h1, h2⟩, h3⟩, h4⟩, h5⟩, h6⟩ := hok
  exact fun_of_body hE hm hf h1 (code_some h2 rfl) hres h3 (Nat.le_of_ble_eq_true h4) (Nat.le_of_ble_eq_true h5) hgs (fun t ht => by have := List.all_eq_true.1 h6 t ht; simpa [Nat.blt_eq] using this) (h _ _ _ _ _ _ _ _ _ _ _ _ _ _ _ _ _ _ _ _ _ _ _ _ _ _ _ _ _ _ _ _ rfl (fun _ _ _ _ h => h) rfl rfl)
end Go.Vm
/- Results that lie in cells; loops with one way out; arguments that are lent. -/
namespace Go.Vm
section
variable {P : Program} {E : TE} {ρ : Env} {σ : St} {K : List W → Prop} {a : Act} {w : World} {imm : Set} {Λ : Lam} {F : Key → Set}

/-- the results of a body: slots, or cells -/
def resOf (E : TE) : List (Nat × Option Nat) → (List A → Pg) → Pg
  | [], f => f []
  | (t, none) :: ts, f => .gs t fun a => resOf E ts fun as => f (a :: as)
  | (t, some u) :: ts, f => .gs t fun p => match p with
    | .mptr κ g i off => .gn κ fun h => match h with
      | .box g' cells => if g = g' ∧ i = 0 then (oo (cut off (E.info u).size cells) fun cs => if cs.all plain then (oo (mkVal (E.info u).td cs) fun v => resOf E ts fun as => f (v :: as)) else .fail) else .fail
      | _ => .fail
    | _ => .fail
def resVar : Nat × Option Nat → ResultVar
  | (t, none) => .tmp t
  | (t, some u) => .cell t u
def resG (P : Program) (w : World) (tmps : Array Value) (x : Nat × Option Nat) : Value := match (resOne tmps (resVar x)).run P w with
  | .ok v _ => v
  | _ => undef
theorem resOf_sound (hE : EOk P E) (h : RelX ρ σ a w imm Λ F) : ∀ (ts : List (Nat × Option Nat)) (f : List A → Pg), (∀ x ∈ ts, x.1 < 1000000) → (resOf E ts f).holds σ K →
    ∃ vs, (f vs).holds σ K ∧ ValsR w imm (some Λ) vs (ts.map (resG P w a.tmps)) Set.no ∧ ∀ x ∈ ts, (resOne a.tmps (resVar x)).run P w = .ok (resG P w a.tmps x) w
  | [], f, _, hh => ⟨[], hh, by simp only [List.map_nil, ValsR], by simp⟩
  | (t, none) :: ts, f, hl, hh => by
    obtain ⟨vs, h1, h2, h3⟩ := resOf_sound hE h ts _ (fun x hx => hl x (List.mem_cons_of_mem _ hx)) hh
    have ht : t < 1000000 := hl _ List.mem_cons_self
    have hr : (resOne a.tmps (resVar (t, none))).run P w = .ok (a.tmps.getD t undef) w := by simp [resOne, resVar]
    have hg : resG P w a.tmps (t, none) = a.tmps.getD t undef := by unfold resG; rw [hr]
    have hs := h.slots t
    unfold slotv at hs
    rw [if_pos ht] at hs
    refine ⟨_ :: vs, h1, ?_, ?_⟩
    · simp only [List.map_cons, ValsR]
      rw [hg]
      exact ⟨Set.no, Set.no, hs, h2, Set.le_refl _, Set.le_refl _, Set.no_dis _⟩
    · intro x hx
      rcases List.mem_cons.1 hx with rfl | hx
      · rw [hg]; exact hr
      · exact h3 x hx
  | (t, some u) :: ts, f, hl, hh => by
    have ht : t < 1000000 := hl _ List.mem_cons_self
    have hs := h.slots t
    simp only [resOf, Pg.holds] at hh
    unfold slotv at hs
    rw [if_pos ht] at hs
    cases hx : lkS σ.slots t <;> rw [hx] at hh hs <;> simp only [Pg.holds] at hh
    rename_i κ g i off
    have hN := h.nodes κ
    simp only [CR] at hs
    cases hn : lkN σ.heap κ.1 κ.2 <;> rw [hn] at hh hN <;> simp only [Pg.holds] at hh
    rename_i g' cells
    split at hh
    · rename_i hg
      obtain ⟨rfl, rfl⟩ := hg
      obtain ⟨h1, h2, h3, b, base, size, S', h4, h5, h6, h7, h8, h9, h10⟩ := hN
      obtain ⟨b', base', size', e1, e2⟩ := PtrR.at hs h1 (by rw [h4]; simp)
      rw [h4] at e1
      simp only [Loc.at_.injEq] at e1
      obtain ⟨rfl, rfl, rfl⟩ := e1
      obtain ⟨cs, hcut, hh⟩ := oo_holds hh
      split at hh
      · rename_i hp
        obtain ⟨v, hm, hh⟩ := oo_holds (x := mkVal _ _) hh
        obtain ⟨y, hrun, hv⟩ := run_loadAt (P := P) hE (CellsR.cut _ _ _ _ _ _ hcut h10) (cut_len _ _ _ _ hcut) hm
        obtain ⟨vs, q1, q2, q3⟩ := resOf_sound hE h ts _ (fun x hx => hl x (List.mem_cons_of_mem _ hx)) hh
        have hr : (resOne a.tmps (resVar (t, some u))).run P w = .ok y w := by
          have hrun' : (loadVar u ⟨b, base + off, none⟩).run P w = .ok y w := by
            simpa [Instr.loadAt, Instr.sureAddr] using hrun
          simp only [resOne, resVar, e2, asAddr, Nat.zero_mul, Nat.add_zero, Sem.run_bind, Sem.run_pure, Result.andThen_ok]
          exact hrun'
        have hg : resG P w a.tmps (t, some u) = y := by unfold resG; rw [hr]
        refine ⟨_ :: vs, q1, ?_, ?_⟩
        · simp only [List.map_cons, ValsR]
          rw [hg]
          exact ⟨Set.no, Set.no, mkVal_plain hm hp hv, q2, Set.le_refl _, Set.le_refl _, Set.no_dis _⟩
        · intro x hx
          rcases List.mem_cons.1 hx with rfl | hx
          · rw [hg]; exact hr
          · exact q3 x hx
      · exact hh.elim
    · exact hh.elim
theorem run_results2 {fn : Func} {ts : List (Nat × Option Nat)} (h : fn.results.toList = ts.map resVar) (tmps : Array Value) (hr : ∀ x ∈ ts, (resOne tmps (resVar x)).run P w = .ok (resG P w tmps x) w) :
    (results fn tmps).run P w = .ok (resultOf (ts.map (resG P w tmps)).toArray) w := by
  let G : ResultVar → Value := fun x => match (resOne tmps x).run P w with
    | .ok v _ => v
    | _ => undef
  have hm : (fn.results.mapM (resOne tmps)).run P w = .ok (ts.map (resG P w tmps)).toArray w := by
    rw [run_mapMA (P := P) (w := w) (f := resOne tmps) (g := G) fn.results (fun x hx => by
        rw [h] at hx
        obtain ⟨t, ht, rfl⟩ := List.mem_map.1 hx
        have := hr t ht
        show _ = Result.ok (match (resOne tmps (resVar t)).run P w with
          | .ok v _ => v
          | _ => undef) w
        rw [this]), h, List.map_map]
    rfl
  rw [results_eq, Sem.run_bind, hm]
  rfl

def retPg2 (E : TE) (C : Ctx) (ts : List (Nat × Option Nat)) (rm : List Mode) (gs : List Nat) (pm : List Mode) (post : List A) (r : A) : Pg :=
  resOf E ts fun vs => slotsOf gs fun as => expoArgs C 12 rm vs fun rds => expoArgs C 12 pm as fun pds => .need (tupOf rds = r ∧ pds = post) (.done [])
def body2 (E : TE) (C : Ctx) (c : Code) (ts : List (Nat × Option Nat)) (rm : List Mode) (gs : List Nat) (pm : List Mode) (ds post : List A) (r : A) : Prop :=
  entry C 0 ds ⟨[], []⟩ fun σ => wpC E C c (fun e σ => match e with
    | .exit _ => False
    | _ => (retPg2 E C ts rm gs pm post r).holds σ fun _ => True) σ

theorem fun_of_body2 (hE : EOk P E) (hm : P.follows .mixedOrders = true) {f : FuncId} {fn : Func} {c : Code} {ts : List (Nat × Option Nat)} {rm : List Mode} {gs : List Nat} {pm : List Mode} {ds post : List A} {r : A} (hf : P.funcs[f]? = some fn) (hname : (fn.name == "runtime.NumGoroutine") = false) (hb : fn.body = some c)
    (hres : fn.results.toList = ts.map resVar) (hcode : codeOk fn.ntmps c = true) (hn : fn.ntmps ≤ 1000000) (hds : ds.length ≤ fn.ntmps) (hgs : gs = (List.range ds.length).map (1000000 + ·)) (hts : ∀ t ∈ ts, t.1 < 1000000)
    (h : body2 E (real P) c ts rm gs pm ds post r) : FunW P f ds post r := by
  refine ⟨⟨fn, hf, hname, by simp [hb]⟩, fun w imm S vs hv hSi himm hS => ?_⟩
  refine calls_of_wp hf hb ?_
  have hvl := hv.length
  let ρ : Env := ⟨w, S, imm, fn.ntmps, vs⟩
  let a : Act := { tmps := vs.toArray ++ Array.replicate (fn.ntmps - vs.toArray.size) undef, defers := [] }
  have h0 : RelX ρ ⟨[], []⟩ a w imm (fun _ => ⟨0, .gone, 0, 0⟩) (fun _ => Set.no) :=
    { size := by show (vs.toArray ++ Array.replicate (fn.ntmps - vs.toArray.size) undef).size = fn.ntmps
                 simp; omega
      nlt := hn
      slots := fun t => by simp only [lkS, CR]
      nodes := fun κ => ⟨rfl, rfl⟩
      dis := fun _ _ _ => Set.no_dis _
      fimm := fun _ => Set.no_dis _
      flt := fun _ _ z => z.elim
      immlt := fun b hb => ⟨himm b hb, .inl hb⟩
      imm0 := Set.le_refl _
      keep := fun _ _ _ => rfl
      grow := Nat.le_refl _
      os := ⟨rfl, rfl, rfl, SizesKept.refl w⟩
      defers := rfl }
  have hslot : ∀ j, j < vs.length → vs[j]? = some (slotv ρ a j) ∧ vs[j]? = some (slotv ρ a (1000000 + j)) := by
    intro j hj
    have hj2 : j < 1000000 := by omega
    constructor
    · unfold slotv
      rw [if_pos hj2]
      show _ = some ((vs.toArray ++ Array.replicate (fn.ntmps - vs.toArray.size) undef).getD j undef)
      rw [Array.getD_eq_getD_getElem?, Array.getElem?_append_left (by simpa using hj)]
      simp [hj]
    · unfold slotv
      rw [if_neg (by omega)]
      show _ = some (vs.getD (1000000 + j - 1000000) undef)
      rw [show 1000000 + j - 1000000 = j by omega]
      simp [hj]
  obtain ⟨σ, hw, hr⟩ := entry_sound (P := P) ds 0 vs _ _ _ S h0 hv ⟨fun _ _ _ z => z, hSi, fun b hb => ⟨hS b hb, .inl hb⟩⟩ (fun j hj => by simpa using hslot j hj) h
  refine wp_mono (wpC_sound hE hm c _ σ hw ρ a w hcode hr) ?_
  intro e a' w' hq
  have fin : (∃ σ', (retPg2 E (real P) ts rm gs pm post r).holds σ' (fun _ => True) ∧ Rel ρ σ' a' w') → bodyPost P fn (fun
      | .returned v, w' => ∃ imm' T1 T2, Set.le imm imm' ∧ ValsR w' imm' none post vs T1 ∧ CR w' imm' none r v T2 ∧ Set.dis T1 T2 ∧ Set.dis T1 imm' ∧ Set.dis T2 imm' ∧
          (∀ b, T1 b ∨ T2 b → b < w'.heap.size ∧ (S b ∨ w.heap.size ≤ b)) ∧ (∀ b, imm' b → b < w'.heap.size ∧ (imm b ∨ S b ∨ w.heap.size ≤ b)) ∧
          (∀ b, b < w.heap.size → ¬ S b → w'.heap[b]? = w.heap[b]?) ∧ w.heap.size ≤ w'.heap.size ∧ w'.os = w.os ∧ w'.output = w.output ∧ w'.tape = w.tape ∧ SizesKept w w'
      | .panicked _, _ => False
      | .outgrown, _ => False) .ret a' w' := by
    rintro ⟨σ', hh, imm0, Λ', F', hX⟩
    obtain ⟨rvs, hh1, hrv, hruns⟩ := resOf_sound hE hX ts _ hts hh
    obtain ⟨as, hh2, has⟩ := slotsOf_sound hX hh1
    have hP0 : Phase σ' Λ' (fun b => ∃ κ, F' κ b) σ' w' imm0 F' := ⟨fun _ => rfl, fun κ => .inr (hX.nodes κ), hX.dis, hX.fimm, fun κ b hb => ⟨κ, hb⟩⟩
    obtain ⟨ws1, rds, imm1, F1, S1, q1, q2, q3, q4, q5, q6, q7, q8, _⟩ := expoArgs_sound rvs rm _ _ σ' imm0 F' _ hP0 hrv hh2
    obtain ⟨ws2, pds, imm2, F2, S2, p1, p2, p3, p4, p5, p6, p7, p8, _⟩ := expoArgs_sound as pm _ _ _ imm1 F1 _ q2 (ValsR.stable q3 (fun _ _ => rfl) _ _ _ _ _ _ (LamLe?.refl _) (Set.le_refl _) (fun _ _ => rfl) has) q1
    obtain ⟨⟨rfl, rfl⟩, _⟩ := p1
    have hgv : gs.map (slotv ρ a') = vs := by
      rw [hgs]
      apply List.ext_getElem?
      intro j
      simp only [List.map_map, List.getElem?_map]
      rcases Nat.lt_or_ge j vs.length with hj | hj
      · rw [List.getElem?_range (by omega)]
        simp only [Option.map_some, Function.comp]
        unfold slotv
        rw [if_neg (by omega)]
        show some (vs.getD (1000000 + j - 1000000) undef) = _
        rw [show 1000000 + j - 1000000 = j by omega]
        simp [hj]
      · rw [List.getElem?_eq_none (by simp; omega), List.getElem?_eq_none hj]; rfl
    rw [hgv] at p4
    refine ⟨hX.defers, _, run_results2 hres a'.tmps hruns, imm2, S2, S1, Set.le_trans hX.imm0 (Set.le_trans q3 p3), p4, ?_, fun b hb hb2 => ?_, p5.imm, fun b hb hb2 => ?_, fun b hb => ?_, fun b hb => ?_, hX.keep, hX.grow, hX.os⟩
    · exact CR.stable p3 (fun _ _ => rfl) none none _ _ _ _ trivial (Set.le_refl _) (fun _ _ => rfl) (tupOf_R q4)
    · obtain ⟨κ, hk⟩ := p8 b hb
      exact q5.dis κ b hb2 hk
    · rcases p6 b hb2 with h' | ⟨κ, h'⟩
      · exact q5.imm b hb h'
      · exact q5.dis κ b hb h'
    · have : ∃ κ, F' κ b := by
        rcases hb with hb | hb
        · obtain ⟨κ, hk⟩ := p8 b hb; exact ⟨κ, q7 κ b hk⟩
        · exact q8 b hb
      obtain ⟨κ, hk⟩ := this
      exact hX.flt κ b hk
    · have : imm0 b ∨ ∃ κ, F' κ b := by
        rcases p6 b hb with h' | ⟨κ, h'⟩
        · exact q6 b h'
        · exact .inr ⟨κ, q7 κ b h'⟩
      rcases this with h' | ⟨κ, hk⟩
      · exact hX.immlt b h'
      · exact ⟨(hX.flt κ b hk).1, .inr (hX.flt κ b hk).2⟩
  cases e with
  | normal => exact fin hq
  | ret => exact fin hq
  | exit id => obtain ⟨_, h', _⟩ := hq; exact h'.elim
  | _ => exact hq.elim

def okB2 (fn : Func) (n : Nat) (ts : List (Nat × Option Nat)) : Bool := !(fn.name == "runtime.NumGoroutine") && !fn.body.isNone && codeOk fn.ntmps (fn.body.getD .skip) && Nat.ble fn.ntmps 1000000 && Nat.ble n fn.ntmps && ts.all fun t => Nat.blt t.1 1000000
theorem fun_go2 {P : Program} {E : TE} (hE : EOk P E) (hm : P.follows .mixedOrders = true) {f : FuncId} {fn : Func} {ts : List (Nat × Option Nat)} {rm : List Mode} {gs : List Nat} {pm : List Mode} {ds post : List A} {r : A} (hf : P.funcs[f]? = some fn)
    (hok : okB2 fn ds.length ts = true) (hres : fn.results.toList = ts.map resVar) (hgs : gs = (List.range ds.length).map (1000000 + ·))
    (h : ∀ Fn LW len cast toNat wrap add sub mul bin lt eq At set part app fz rep nadd nmax ssize sext sget scat seq slt Wide Flat Ones Room r' post', (⟨Fn, LW, len, cast, toNat, wrap, add, sub, mul, bin, lt, eq, At, set, part, app, fz, rep, nadd, nmax, ssize, sext, sget, scat, seq, slt, Wide, Flat, Ones, Room⟩ : Ctx) = real P →
      (∀ f ds ds' post post' r, FunW P f ds' post' r → ds = ds' → post = post' → Fn f ds post r) → r' = r → post' = post →
      body2 E ⟨Fn, LW, len, cast, toNat, wrap, add, sub, mul, bin, lt, eq, At, set, part, app, fz, rep, nadd, nmax, ssize, sext, sget, scat, seq, slt, Wide, Flat, Ones, Room⟩ (fn.body.getD .skip) ts rm gs pm ds post' r') : FunW P f ds post r := by
  unfold okB2 at hok
  simp only [Bool.and_eq_true, Bool.not_eq_true'] at hok
  obtain ⟨⟨⟨⟨⟨h1, h2⟩, h3⟩, h4⟩, h5⟩, h6⟩ := hok
  exact fun_of_body2 hE hm hf h1 (code_some h2 rfl) hres h3 (Nat.le_of_ble_eq_true h4) (Nat.le_of_ble_eq_true h5) hgs (fun t ht => by have := List.all_eq_true.1 h6 t ht; simpa [Nat.blt_eq] using this) (h _ _ _ _ _ _ _ _ _ _ _ _ _ _ _ _ _ _ _ _ _ _ _ _ _ _ _ _ _ _ _ _ rfl (fun _ _ _ _ _ _ h e e' => by rw [e, e']; exact h) rfl rfl)

/-- a loop whose ways out are led to states that are said beforehand -/
theorem loop_go2 {P : Program} {E : TE} {C : Ctx} (hC : C = real P) (hE : EOk P E) (hm : P.follows .mixedOrders = true) {c : Code} {Q : Ex → St → Prop} {σ : St} {ι ξ : Type} (I : ι → St) (Inv : ι → Prop) (μ : ι → Nat) (X : ξ → Ex) (T : ξ → St) (Good : ξ → Prop) (i0 : ι) (hi : Inv i0) (h0 : Cov σ (I i0))
    (rest : ∀ x, Good x → Q (X x) (T x))
    (round : ∀ i (N : St → Prop) (D : Ex → St → Prop), Inv i → (∀ σ' j, Inv j → μ j < μ i → Cov σ' (I j) → N σ') → (∀ σ' x, Good x → Cov σ' (T x) → D (X x) σ') → (∀ e σ', Q e σ' → D e σ') →
      wpC E C c (fun e σ' => match e with | .normal => N σ' | e => D e σ') (I i)) (hmk : marked c = false) : C.LW c Q σ := by
  subst hC
  have key : SemC P (.loop c) (fun e σ' => Q e σ' ∨ ∃ x, Good x ∧ X x = e ∧ Cov σ' (T x)) σ :=
    loop_rule hE hm (ι := { i // Inv i }) (fun i => I i.1) (fun i => μ i.1) ⟨i0, hi⟩ h0 fun i =>
      round i.1 _ (fun e σ' => Q e σ' ∨ ∃ x, Good x ∧ X x = e ∧ Cov σ' (T x)) i.2 (fun σ' j hj h2 h1 => ⟨⟨j, hj⟩, h1, h2⟩) (fun σ' x hx hc => .inr ⟨x, hx, rfl, hc⟩) (fun e σ' h => .inl h)
  refine LWc_loop hmk ?_
  intro ρ a w hc hr
  have lift : ∀ e a w, Lift ρ (fun e σ' => Q e σ' ∨ ∃ x, Good x ∧ X x = e ∧ Cov σ' (T x)) e a w → Lift ρ Q e a w := by
    intro e a w h
    have st : ∀ e', (∃ σ, (Q e' σ ∨ ∃ x, Good x ∧ X x = e' ∧ Cov σ (T x)) ∧ Rel ρ σ a w) → ∃ σ, Q e' σ ∧ Rel ρ σ a w := by
      rintro e' ⟨σ', hq | ⟨x, hx, rfl, hcov⟩, hrel⟩
      · exact ⟨σ', hq, hrel⟩
      · exact ⟨T x, rest x hx, hcov ρ a w hrel⟩
    cases e with
    | normal => exact st _ h
    | exit id => exact st _ h
    | ret => exact st _ h
    | _ => exact h
  exact wp_mono (key ρ a w hc hr) lift

end
/- hypotheses taken apart -/
theorem if_or {α : Type} {c : Prop} [Decidable c] {x y r : α} (h : (if c then x else y) = r) : (c ∧ x = r) ∨ (¬ c ∧ y = r) := by
  by_cases hc : c
  · rw [if_pos hc] at h; exact .inl ⟨hc, h⟩
  · rw [if_neg hc] at h; exact .inr ⟨hc, h⟩
def req {α : Type} (c : Prop) [Decidable c] (x : Option α) : Option α := if c then x else none
theorem req_some {α : Type} {c : Prop} [Decidable c] {x : Option α} {r : α} (h : req c x = some r) : c ∧ x = some r := by
  unfold req at h
  rcases if_or h with ⟨hc, h⟩ | ⟨_, h⟩
  · exact ⟨hc, h⟩
  · cases h
theorem req_pos {α : Type} {c : Prop} [Decidable c] {x : Option α} (h : c) : req c x = x := if_pos h
theorem bind_some {α β : Type} {x : Option α} {f : α → Option β} {r : β} (h : x.bind f = some r) : ∃ y, x = some y ∧ f y = some r := by
  cases x with
  | none => cases h
  | some y => exact ⟨y, rfl, h⟩
end Go.Vm
/- Arguments that are lent; rows that are shut. -/
namespace Go.Vm
section
variable {P : Program} {E : TE} {Fn : FuncId → List A → List A → A → Prop} {LW : Code → (Ex → St → Prop) → St → Prop} {ρ : Env} {σ : St} {K : List W → Prop} {a : Act} {w : World} {imm : Set} {Λ : Lam} {F : Key → Set}

mutual
/-- what it means does not lean on what stands still -/
def ownd : A → Bool
  | .lit _ => true
  | .emp => true
  | .hole => true
  | .inl _ rows => owndRows rows
  | .obox cells => owndL cells
  | .agg cs => owndL cs
  | .tup cs => owndL cs
  | _ => false
def owndL : List A → Bool
  | [] => true
  | c :: cs => if ownd c then owndL cs else false
def owndRows : Rows → Bool
  | [] => true
  | r :: rs => if owndL r then owndRows rs else false
end
mutual
theorem CR.ownd {imm' : Set} : ∀ (x : A) (v : Value) (S : Set), Vm.ownd x = true → CR w imm none x v S → CR w imm' none x v S
  | .lit _, v, S, _, h => by simp only [CR] at h ⊢; exact h
  | .emp, v, S, _, h => by simp only [CR] at h ⊢; exact h
  | .hole, v, S, _, _ => by simp only [CR]
  | .inl k rows, v, S, ho, h => by
    simp only [Vm.ownd] at ho
    simp only [CR] at h ⊢
    obtain ⟨a, cap, e, h⟩ := h
    refine ⟨a, cap, e, h.imp id ?_⟩
    rintro ⟨b, o, size, S', h0, h1, h2, h3, h4, h5, h6, h7, h8⟩
    exact ⟨b, o, size, S', h0, h1, h2, h3, h4, h5, h6, h7, RowsR.ownd rows b o k S' ho h8⟩
  | .obox cells, v, S, ho, h => by
    simp only [Vm.ownd] at ho
    simp only [CR] at h ⊢
    obtain ⟨b, o, size, S', h0, h1, h2, h3, h4, h5, h6⟩ := h
    exact ⟨b, o, size, S', h0, h1, h2, h3, h4, h5, CellsR.ownd cells b o S' ho h6⟩
  | .agg cs, v, S, ho, h => by
    simp only [Vm.ownd] at ho
    simp only [CR] at h ⊢
    obtain ⟨vs, e, h⟩ := h
    exact ⟨vs, e, ValsR.ownd cs vs S ho h⟩
  | .tup cs, v, S, ho, h => by
    simp only [Vm.ownd] at ho
    simp only [CR] at h ⊢
    obtain ⟨vs, e, h⟩ := h
    exact ⟨vs, e, ValsR.ownd cs vs S ho h⟩
  | .tree _, v, S, ho, _ => by simp [Vm.ownd] at ho
  | .optr _ _ _, v, S, ho, _ => by simp [Vm.ownd] at ho
  | .ref .., v, S, ho, _ => by simp [Vm.ownd] at ho
  | .mptr .., v, S, ho, _ => by simp [Vm.ownd] at ho
  | .iptr .., v, S, ho, _ => by simp [Vm.ownd] at ho
  | .clo .., v, S, ho, _ => by simp [Vm.ownd] at ho
theorem CellsR.ownd {imm' : Set} : ∀ (cs : List A) (b o : Nat) (S : Set), owndL cs = true → CellsR w imm none cs b o S → CellsR w imm' none cs b o S
  | [], _, _, _, _, _ => by simp only [CellsR]
  | c :: cs, b, o, S, ho, h => by
    simp only [owndL] at ho
    split at ho
    · rename_i hc
      simp only [CellsR] at h ⊢
      obtain ⟨v, S1, S2, h1, h2, h3, h4, h5, h6⟩ := h
      exact ⟨v, S1, S2, h1, CR.ownd c v S1 hc h2, CellsR.ownd cs b (o + 1) S2 ho h3, h4, h5, h6⟩
    · cases ho
theorem RowsR.ownd {imm' : Set} : ∀ (rs : Rows) (b o k : Nat) (S : Set), owndRows rs = true → RowsR w imm none rs b o k S → RowsR w imm' none rs b o k S
  | [], _, _, _, _, _, _ => by simp only [RowsR]
  | r :: rs, b, o, k, S, ho, h => by
    simp only [owndRows] at ho
    split at ho
    · rename_i hc
      simp only [RowsR] at h ⊢
      obtain ⟨S1, S2, h1, h2, h3, h4, h5, h6⟩ := h
      exact ⟨S1, S2, h1, CellsR.ownd r b o S1 hc h2, RowsR.ownd rs b (o + k) k S2 ho h3, h4, h5, h6⟩
    · cases ho
theorem ValsR.ownd {imm' : Set} : ∀ (cs : List A) (vs : List Value) (S : Set), owndL cs = true → ValsR w imm none cs vs S → ValsR w imm' none cs vs S
  | [], [], _, _, _ => by simp only [ValsR]
  | [], _ :: _, _, _, h => by simp only [ValsR] at h
  | _ :: _, [], _, _, h => by simp only [ValsR] at h
  | c :: cs, v :: vs, S, ho, h => by
    simp only [owndL] at ho
    split at ho
    · rename_i hc
      simp only [ValsR] at h ⊢
      obtain ⟨S1, S2, h2, h3, h4, h5, h6⟩ := h
      exact ⟨S1, S2, CR.ownd c v S1 hc h2, ValsR.ownd cs vs S2 ho h3, h4, h5, h6⟩
    · cases ho
end
theorem owndRows_of {rows : Rows} (h : ∀ r ∈ rows, owndL r = true) : owndRows rows = true := by
  induction rows with
  | nil => rfl
  | cons r rs ih => simp only [owndRows, h r (by simp), if_true]; exact ih fun x hx => h x (by simp [hx])

/-- some arguments are lent: the callee takes them for what stands still -/
inductive Lend : List A → List A → List A → List A → Prop
  | nil : Lend [] [] [] []
  | same {d p : A} {ds ps ds' ps' : List A} (hp : Vm.ownd p = true) (h : Lend ds ps ds' ps') : Lend (d :: ds) (p :: ps) (d :: ds') (p :: ps')
  | lend {d d' p : A} {ds ps ds' ps' : List A} (hd : d = fz d') (h : Lend ds ps ds' ps') : Lend (d :: ds) (p :: ps) (d' :: ds') (d' :: ps')

theorem Lend.take {ds ps ds' ps' : List A} (h : Lend ds ps ds' ps') : ∀ (vs : List Value) (S : Set), ValsR w imm none ds' vs S → ∃ SL SK : Set, Set.le SL S ∧ Set.le SK S ∧ Set.dis SL SK ∧ ValsR w (fun b => imm b ∨ SL b) none ds vs SK ∧
    ∀ (w' : World) (imm1 imm' T : Set), (∀ b, SL b → w'.heap[b]? = w.heap[b]?) → (∀ b, imm b → w'.heap[b]? = w.heap[b]?) → Set.le imm imm' → Set.dis T SL → ValsR w' imm1 none ps vs T → ValsR w' imm' none ps' vs (fun b => SL b ∨ T b) := by
  induction h with
  | nil =>
    intro vs S hv
    cases vs with
    | nil => exact ⟨Set.no, Set.no, Set.no_le _, Set.no_le _, Set.no_dis _, by simp only [ValsR], fun _ _ _ _ _ _ _ _ _ => by simp only [ValsR]⟩
    | cons => simp only [ValsR] at hv
  | @same d p ds ps ds' ps' hp _ ih =>
    intro vs S hv
    cases vs with
    | nil => simp only [ValsR] at hv
    | cons v vs =>
      simp only [ValsR] at hv
      obtain ⟨S1, S2, h1, h2, h3, h4, h5⟩ := hv
      obtain ⟨SL, SK, g1, g2, g3, g4, g5⟩ := ih vs S2 h2
      refine ⟨SL, fun b => S1 b ∨ SK b, Set.le_trans g1 h4, fun b hb => hb.elim (h3 b) (fun z => h4 b (g2 b z)), fun b hb hc => hc.elim (fun z => h5 b z (g1 b hb)) (g3 b hb), ?_, ?_⟩
      · simp only [ValsR]
        exact ⟨S1, SK, CR.stable (fun b hb => .inl hb) (fun _ _ => rfl) none none _ _ _ _ trivial (Set.le_refl _) (fun _ _ => rfl) h1, g4, fun b hb => .inl hb, fun b hb => .inr hb, fun b hb hc => h5 b hb (g2 b hc)⟩
      · intro w' imm1 imm' T q1 q2 q3 q4 q5
        simp only [ValsR] at q5 ⊢
        obtain ⟨T1, T2, t1, t2, t3, t4, t5⟩ := q5
        exact ⟨T1, fun b => SL b ∨ T2 b, CR.ownd p v T1 hp t1, g5 w' imm1 imm' T2 q1 q2 q3 (fun b hb => q4 b (t4 b hb)) t2, fun b hb => .inr (t3 b hb), fun b hb => hb.imp id (t4 b), fun b hb hc => hc.elim (fun z => q4 b (t3 b hb) z) (t5 b hb)⟩
  | @lend d d' p ds ps ds' ps' hd _ ih =>
    intro vs S hv
    subst hd
    cases vs with
    | nil => simp only [ValsR] at hv
    | cons v vs =>
      simp only [ValsR] at hv
      obtain ⟨S1, S2, h1, h2, h3, h4, h5⟩ := hv
      obtain ⟨SL, SK, g1, g2, g3, g4, g5⟩ := ih vs S2 h2
      refine ⟨fun b => S1 b ∨ SL b, SK, fun b hb => hb.elim (h3 b) (fun z => h4 b (g1 b z)), Set.le_trans g2 h4, fun b hb hc => hb.elim (fun z => h5 b z (g2 b hc)) (fun z => g3 b z hc), ?_, ?_⟩
      · simp only [ValsR]
        exact ⟨Set.no, SK, CR.freeze (fun b hb => .inl hb) _ v S1 h1 (fun b hb => .inr (.inl hb)), ValsR.stable (fun b hb => hb.imp id .inr) (fun _ _ => rfl) none none _ _ _ _ trivial (Set.le_refl _) (fun _ _ => rfl) g4, Set.no_le _, Set.le_refl _, Set.no_dis _⟩
      · intro w' imm1 imm' T q1 q2 q3 q4 q5
        simp only [ValsR] at q5 ⊢
        obtain ⟨T1, T2, t1, t2, t3, t4, t5⟩ := q5
        exact ⟨S1, fun b => SL b ∨ T2 b, CR.stable q3 q2 none none _ _ _ _ trivial (Set.le_refl _) (fun b hb => q1 b (.inl hb)) h1, g5 w' imm1 imm' T2 (fun b hb => q1 b (.inr hb)) q2 q3 (fun b hb hc => q4 b (t4 b hb) (.inr hc)) t2,
          fun b hb => .inl (.inl hb), fun b hb => hb.elim (fun z => .inl (.inr z)) (fun z => .inr (t4 b z)), fun b hb hc => hc.elim (fun z => h5 b hb (g1 b z)) (fun z => q4 b (t4 b z) (.inl hb))⟩

theorem FunW.lend {f : FuncId} {ds ps ds' ps' : List A} {r : A} (h : FunW P f ds ps r) (hr : Vm.ownd r = true) (hl : Lend ds ps ds' ps') : FunW P f ds' ps' r := by
  refine ⟨h.1, fun w imm S vs hv hSi himm hS => ?_⟩
  obtain ⟨SL, SK, g1, g2, g3, g4, g5⟩ := hl.take vs S hv
  refine Calls.mono' (h.2 w (fun b => imm b ∨ SL b) SK vs g4 (fun b hb hc => hc.elim (hSi b (g2 b hb)) (fun z => g3 b z hb)) (fun b hb => hb.elim (himm b) (fun z => hS b (g1 b z))) (fun b hb => hS b (g2 b hb))) ?_
  intro e w' hq
  cases e with
  | returned v =>
    obtain ⟨imm', T1, T2, q1, q2, q3, q4, q5, q6, q7, q8, q9, q10, q11⟩ := hq
    have hL : ∀ b, SL b → imm' b := fun b hb => q1 b (.inr hb)
    have sameL : ∀ b, SL b → w'.heap[b]? = w.heap[b]? := fun b hb => q9 b (hS b (g1 b hb)) (g3 b hb)
    have sameI : ∀ b, imm b → w'.heap[b]? = w.heap[b]? := fun b hb => q9 b (himm b hb) (fun z => hSi b (g2 b z) hb)
    refine ⟨fun b => imm' b ∧ ¬ SL b, fun b => SL b ∨ T1 b, T2, fun b hb => ⟨q1 b (.inl hb), fun z => hSi b (g1 b z) hb⟩, ?_, CR.ownd r v T2 hr q3, fun b hb hc => hb.elim (fun z => q6 b hc (hL b z)) (fun z => q4 b z hc), fun b hb hc => hb.elim hc.2 (fun z => q5 b z hc.1), fun b hb hc => q6 b hb hc.1, ?_, ?_, ?_, q10, q11⟩
    · exact g5 w' imm' _ T1 sameL sameI (fun b hb => ⟨q1 b (.inl hb), fun z => hSi b (g1 b z) hb⟩) (fun b hb hc => q5 b hb (hL b hc)) q2
    · intro b hb
      have : SL b ∨ (T1 b ∨ T2 b) := by
        rcases hb with (hb | hb) | hb
        · exact .inl hb
        · exact .inr (.inl hb)
        · exact .inr (.inr hb)
      rcases this with hb | hb
      · exact ⟨Nat.lt_of_lt_of_le (hS b (g1 b hb)) q10, .inl (g1 b hb)⟩
      · exact ⟨(q7 b hb).1, (q7 b hb).2.imp (g2 b) id⟩
    · intro b hb
      obtain ⟨h1, h2⟩ := q8 b hb.1
      refine ⟨h1, ?_⟩
      rcases h2 with (h2 | h2) | h2 | h2
      · exact .inl h2
      · exact absurd h2 hb.2
      · exact .inr (.inl (g2 b h2))
      · exact .inr (.inr h2)
    · intro b hb hno
      exact q9 b hb (fun z => hno (g2 b z))
  | panicked _ => exact hq
  | outgrown => exact hq

theorem plain_vals {x : Option Lam} {cs : List A} {b o : Nat} {S : Set} (h : CellsR w imm x cs b o S) (hp : cs.all plain = true) : CellsR w imm x cs b o Set.no := by
  induction cs generalizing o S with
  | nil => simp only [CellsR]
  | cons c cs ih =>
    simp only [List.all_cons, Bool.and_eq_true] at hp
    simp only [CellsR] at h ⊢
    obtain ⟨v, S1, S2, h1, h2, h3, h4, h5, h6⟩ := h
    exact ⟨v, Set.no, Set.no, h1, CR.plain hp.1 h2, ih h3 hp.2, Set.le_refl _, Set.le_refl _, Set.no_dis _⟩
theorem absorb_plain {C : Ctx} : ∀ {cs : List A} {tk : List Key} {f : List Key → List W → List A → Pg}, (absorb C tk cs f).holds σ K → cs.all plain = true
  | [], _, _, _ => rfl
  | c :: cs, tk, f, h => by
    cases c with
    | ref κ g i n =>
      simp only [absorb] at h
      split at h
      · exact h.elim
      · simp only [Pg.holds] at h
        cases hn : lkN σ.heap κ.1 κ.2 <;> rw [hn] at h <;> simp only [Pg.holds] at h
        · split at h
          · simp only [List.all_cons, plain, Bool.true_and]; exact absorb_plain (C := C) h.2
          · exact h.elim
        · split at h
          · simp only [List.all_cons, plain, Bool.true_and]; exact absorb_plain (C := C) h.2
          · exact h.elim
    | lit u => simp only [absorb] at h; simp only [List.all_cons, plain, Bool.true_and]; exact absorb_plain (C := C) h
    | tree r => simp only [absorb] at h; simp only [List.all_cons, plain, Bool.true_and]; exact absorb_plain (C := C) h
    | emp => simp only [absorb] at h; simp only [List.all_cons, plain, Bool.true_and]; exact absorb_plain (C := C) h
    | inl | obox | optr | mptr | iptr | agg | tup | clo | hole => simp only [absorb] at h; exact h.elim

theorem shut_sound (h : RelX ρ σ a w imm Λ F) {κ : Key} (hh : (shutPg (canon Fn LW) κ).holds σ K) : ∃ ws, K ws ∧ Rel ρ (σ.upd ws) a w := by
  unfold shutPg at hh
  obtain ⟨nd, hnd, hN, hh⟩ := h.node hh
  cases nd <;> simp only [Pg.holds] at hh
  rename_i g k rows i row
  have hp := absorb_plain (C := canon Fn LW) hh
  obtain ⟨e1, e2, e3, b, base, size, S1, S2, e4, e5, e6, e7, e8, e9, e10, e11, e12, e13, e14, e15, e16⟩ := hN
  obtain ⟨vs, hl, hcell, hv⟩ := (plain_vals e15 hp).vals
  obtain ⟨ks, ws, cs', T, hk, hv', hkills, hks, hnd', hT⟩ := absorb_sound h row [κ] vs _ hv hh
  have hκ : κ ∉ ks := fun hm => hks κ hm (by simp)
  have hdT : ∀ y, T y → ¬ F κ y := fun y hy hF => by
    obtain ⟨z, hz, hFz⟩ := hT y hy
    exact h.dis z κ (fun e => hκ (e ▸ hz)) y hFz hF
  have hc' : CellsR w imm none cs' b (base + i * k) T := CellsR.of_vals hv' hcell
  have hlen : cs'.length = k := by rw [← hv'.length, hl, e14]
  refine ⟨_, hk, imm, killL Λ ks, up (killF F ks) κ (fun y => F κ y ∨ T y), ?_⟩
  have old : ∀ x, x ≠ κ → up (killF F ks) κ (fun y => F κ y ∨ T y) x = killF F ks x := fun x hx => up_ne _ _ hx
  refine h.ghost (fun u => ?_) (killL_le Λ ks) (fun x => ?_) (fun x y hxy z hz hw => ?_) (fun x z hz => ?_)
  · rw [St.upd, (hkills _).1 u]; rfl
  · rw [St.upd, (hkills _).2 x]
    by_cases e : x = κ
    · subst e
      rw [if_neg hκ, up_same, show killL Λ ks x = Λ x by simp [killL, hκ]]
      show NR w imm _ _ (lkN ((x, _) :: σ.heap) x.1 x.2) _
      rw [lkN_cons, if_pos rfl]
      refine ⟨e1, e2, by simpa [canon] using e3, .inr ⟨b, base, size, fun y => S2 y ∨ T y, e4, .inl e5, fun z => z.elim e7 (fun z => hdT b z e5), fun y hy => hy.elim (fun z => .inl (e9 y z)) .inr, e11, by simpa [canon] using e12, ?_⟩⟩
      exact RowsR.join rows base i _ T S2 e13 hlen hc' e16 (fun y hy => .inr hy) (fun y hy => .inl hy) (fun y hy hz => hdT y hy (e9 y hz))
    · rw [old x e]
      by_cases hx : x ∈ ks
      · rw [if_pos hx]
        simp only [killL, if_pos hx]
        exact ⟨rfl, rfl⟩
      · rw [if_neg hx, show killL Λ ks x = Λ x by simp [killL, hx], show killF F ks x = F x by simp [killF, hx]]
        show NR w imm _ _ (lkN ((κ, _) :: σ.heap) x.1 x.2) _
        rw [lkN_cons, if_neg e]
        exact (h.nodes x).le (killL_le Λ ks)
  · have one : ∀ u v, u = κ → v ≠ κ → (up (killF F ks) κ (fun y => F κ y ∨ T y)) u z → (up (killF F ks) κ (fun y => F κ y ∨ T y)) v z → False := by
      rintro u v rfl hv hu hv'
      rw [up_same] at hu
      rw [old v hv] at hv'
      rcases hu with hu | hu
      · exact h.dis u v (Ne.symm hv) z hu (killF_le F ks v z hv')
      · obtain ⟨q, hq, hF⟩ := hT z hu
        unfold killF at hv'
        split at hv'
        · exact hv'
        · rename_i hvk
          exact h.dis q v (fun e => hvk (e ▸ hq)) z hF hv'
    by_cases e : x = κ
    · exact one x y e (fun e' => hxy (e.trans e'.symm)) hz hw
    · by_cases e' : y = κ
      · exact one y x e' e hw hz
      · rw [old x e] at hz
        rw [old y e'] at hw
        exact h.dis x y hxy z (killF_le F ks x z hz) (killF_le F ks y z hw)
  · by_cases e : x = κ
    · subst e
      rw [up_same] at hz
      rcases hz with hz | hz
      · exact ⟨x, hz⟩
      · obtain ⟨q, _, hF⟩ := hT z hz; exact ⟨q, hF⟩
    · rw [old x e] at hz; exact ⟨x, killF_le F ks x z hz⟩

theorem cov_shut {C : Ctx} (hC : C = real P) {τ : St} (κ : Key) (hh : (shutPg C κ).holds σ fun ws => Cov (σ.upd ws) τ) : Cov σ τ := by
  subst hC
  rintro ρ a w ⟨imm, Λ, F, h⟩
  obtain ⟨ws, hk, hr⟩ := shut_sound h hh
  exact hk ρ a w hr
end
end Go.Vm
/- What the printed texts lean on. -/
namespace Go.Vm
def strEq (a b : ByteArray) : Bool := a.toList == b.toList
def strLt (a b : ByteArray) : Bool := Op.bytesLess a.toList b.toList
def strAt (s : ByteArray) (i : Nat) : Int := ((s[i]!).toNat : Int)

theorem loop_go3 {P : Program} {E : TE} {C : Ctx} (hC : C = real P) (hE : EOk P E) (hm : P.follows .mixedOrders = true) {c : Code} {Q : Ex → St → Prop} {σ : St} {ι ξ : Type} (I : ι → St) (Inv : ι → Prop) (μ : ι → Nat) (X : ξ → Ex) (T : ξ → St) (Good : ξ → Prop) (i0 : ι) (hi : Inv i0) (h0 : ∀ t, t = i0 → Cov σ (I t))
    (rest : ∀ x, Good x → Q (X x) (T x))
    (round : ∀ i (N : St → Prop) (D : Ex → St → Prop), Inv i → (∀ σ' j, Inv j → μ j < μ i → (∀ t, t = j → Cov σ' (I t)) → N σ') → (∀ σ' x, Good x → (∀ t, t = x → Cov σ' (T t)) → D (X x) σ') → (∀ e σ', Q e σ' → D e σ') →
      wpC E C c (fun e σ' => match e with | .normal => N σ' | e => D e σ') (I i)) (hmk : marked c = false) : C.LW c Q σ :=
  loop_go2 hC hE hm I Inv μ X T Good i0 hi (h0 i0 rfl) rest (fun i N D hI hN hD hQ => round i N D hI (fun σ' j hj hlt hc => hN σ' j hj hlt (hc j rfl)) (fun σ' x hx hc => hD σ' x hx (hc x rfl)) hQ) hmk
attribute [simp] fz fzCells fzRows
@[simp] theorem take_map_len {α β : Type} (l : List α) (f : α → β) : (l.map f).take l.length = l.map f := List.take_of_length_le (by simp)
/-- a result may be let go of: nobody changes it any more -/
theorem FunW.frz {P : Program} {f : FuncId} {ds ps : List A} {r r' : A} (h : FunW P f ds ps r) (hr : r' = fz r) : FunW P f ds ps r' := by
  subst hr
  refine ⟨h.1, fun w imm S vs hv hSi himm hS => ?_⟩
  refine Calls.mono' (h.2 w imm S vs hv hSi himm hS) ?_
  intro e w' hq
  cases e with
  | returned v =>
    obtain ⟨imm', T1, T2, q1, q2, q3, q4, q5, q6, q7, q8, q9, q10, q11⟩ := hq
    refine ⟨fun b => imm' b ∨ T2 b, T1, Set.no, fun b hb => .inl (q1 b hb), ?_, CR.freeze (fun b hb => .inl hb) _ _ _ q3 (fun b hb => .inr hb), fun b _ z => z.elim, fun b hb hc => hc.elim (q5 b hb) (q4 b hb), Set.no_dis _, ?_, ?_, q9, q10, q11⟩
    · exact ValsR.stable (fun b hb => .inl hb) (fun _ _ => rfl) none none _ _ _ _ trivial (Set.le_refl _) (fun _ _ => rfl) q2
    · intro b hb; exact q7 b (hb.imp id (fun z => z.elim))
    · intro b hb
      rcases hb with hb | hb
      · exact q8 b hb
      · exact ⟨(q7 b (.inr hb)).1, .inr (q7 b (.inr hb)).2⟩
  | panicked _ => exact hq
  | outgrown => exact hq
mutual
def frzA : A → A
  | .inl k rows => .inl k (fzRows rows)
  | .agg cs => .agg (frzL cs)
  | .tup cs => .tup (frzL cs)
  | .lit v => .lit v
  | .emp => .emp
  | .tree rows => .tree rows
  | .obox cs => .obox cs
  | .optr k rows i => .optr k rows i
  | .ref κ g i n => .ref κ g i n
  | .mptr κ g i o => .mptr κ g i o
  | .iptr r o => .iptr r o
  | .clo f c => .clo f c
  | .hole => .hole
def frzL : List A → List A
  | [] => []
  | c :: cs => frzA c :: frzL cs
end
attribute [simp] frzA frzL
mutual
theorem CR.frzA {w : World} {imm : Set} : ∀ (a : A) (v : Value) (S : Set), CR w imm none a v S → ∃ S1, Set.le S1 S ∧ ∀ imm' : Set, Set.le imm imm' → (∀ b, S b → ¬ S1 b → imm' b) → CR w imm' none (Vm.frzA a) v S1
  | .inl k rows, v, S, h => by
    simp only [CR] at h
    obtain ⟨a, cap, e, h⟩ := h
    rcases h with ⟨rfl, rfl, rfl⟩ | ⟨b, o, size, S', rfl, h1, h2, h3, h4, h5, h6, h7, h8⟩
    · exact ⟨Set.no, Set.no_le _, fun imm' hi hs => by simp only [Vm.frzA, CR, fzRows]; exact ⟨none, 0, e, .inl (by simp)⟩⟩
    · refine ⟨Set.one b, fun x hx => by rw [show x = b from hx]; exact h1, fun imm' hi hs => ?_⟩
      simp only [Vm.frzA, CR]
      refine ⟨_, cap, by rw [fzRows_len]; exact e, .inr ⟨b, o, size, Set.no, rfl, rfl, fun z => z, Set.no_le _, h4, h5, h6, by rw [fzRows_len]; exact h7, ?_⟩⟩
      exact RowsR.freeze hi rows b o k S' h8 (fun x hx => hs x (h3 x hx) (fun e => h2 (by rw [← show x = b from e]; exact hx)))
  | .agg cs, v, S, h => by
    simp only [CR] at h
    obtain ⟨vs, e, hr⟩ := h
    obtain ⟨S1, h1, h2⟩ := ValsR.frzL cs vs S hr
    exact ⟨S1, h1, fun imm' hi hs => by simp only [Vm.frzA, CR]; exact ⟨vs, e, h2 imm' hi hs⟩⟩
  | .tup cs, v, S, h => by
    simp only [CR] at h
    obtain ⟨vs, e, hr⟩ := h
    obtain ⟨S1, h1, h2⟩ := ValsR.frzL cs vs S hr
    exact ⟨S1, h1, fun imm' hi hs => by simp only [Vm.frzA, CR]; exact ⟨vs, e, h2 imm' hi hs⟩⟩
  | .lit v, u, S, h => ⟨S, Set.le_refl _, fun imm' hi hs => CR.stable hi (fun _ _ => rfl) none none _ _ _ _ trivial (Set.le_refl _) (fun _ _ => rfl) h⟩
  | .emp, u, S, h => ⟨S, Set.le_refl _, fun imm' hi hs => CR.stable hi (fun _ _ => rfl) none none _ _ _ _ trivial (Set.le_refl _) (fun _ _ => rfl) h⟩
  | .tree _, u, S, h => ⟨S, Set.le_refl _, fun imm' hi hs => CR.stable hi (fun _ _ => rfl) none none _ _ _ _ trivial (Set.le_refl _) (fun _ _ => rfl) h⟩
  | .obox _, u, S, h => ⟨S, Set.le_refl _, fun imm' hi hs => CR.stable hi (fun _ _ => rfl) none none _ _ _ _ trivial (Set.le_refl _) (fun _ _ => rfl) h⟩
  | .optr _ _ _, u, S, h => ⟨S, Set.le_refl _, fun imm' hi hs => CR.stable hi (fun _ _ => rfl) none none _ _ _ _ trivial (Set.le_refl _) (fun _ _ => rfl) h⟩
  | .ref .., u, S, h => by simp only [CR] at h
  | .mptr .., u, S, h => by simp only [CR] at h
  | .iptr _ _, u, S, h => ⟨S, Set.le_refl _, fun imm' hi hs => CR.stable hi (fun _ _ => rfl) none none _ _ _ _ trivial (Set.le_refl _) (fun _ _ => rfl) h⟩
  | .clo _ _, u, S, h => ⟨S, Set.le_refl _, fun imm' hi hs => CR.stable hi (fun _ _ => rfl) none none _ _ _ _ trivial (Set.le_refl _) (fun _ _ => rfl) h⟩
  | .hole, u, S, h => ⟨S, Set.le_refl _, fun imm' hi hs => by simp only [Vm.frzA, CR]⟩
theorem ValsR.frzL {w : World} {imm : Set} : ∀ (cs : List A) (vs : List Value) (S : Set), ValsR w imm none cs vs S → ∃ S1, Set.le S1 S ∧ ∀ imm' : Set, Set.le imm imm' → (∀ b, S b → ¬ S1 b → imm' b) → ValsR w imm' none (Vm.frzL cs) vs S1
  | [], [], S, _ => ⟨S, Set.le_refl _, fun _ _ _ => by simp only [Vm.frzL, ValsR]⟩
  | [], _ :: _, S, h => by simp only [ValsR] at h
  | _ :: _, [], S, h => by simp only [ValsR] at h
  | c :: cs, v :: vs, S, h => by
    simp only [ValsR] at h
    obtain ⟨A1, A2, h1, h2, l1, l2, dj⟩ := h
    obtain ⟨B1, k1, m1⟩ := CR.frzA c v A1 h1
    obtain ⟨B2, k2, m2⟩ := ValsR.frzL cs vs A2 h2
    refine ⟨fun b => B1 b ∨ B2 b, fun b hb => hb.elim (fun z => l1 b (k1 b z)) (fun z => l2 b (k2 b z)), fun imm' hi hs => ?_⟩
    simp only [Vm.frzL, ValsR]
    exact ⟨B1, B2, m1 imm' hi (fun b hb hn => hs b (l1 b hb) (fun z => z.elim hn (fun z => dj b hb (k2 b z)))), m2 imm' hi (fun b hb hn => hs b (l2 b hb) (fun z => z.elim (fun z => dj b (k1 b z) hb) hn)), fun b z => .inl z, fun b z => .inr z, fun b z z' => dj b (k1 b z) (k2 b z')⟩
end
/-- what a result's rows hold may be let go of -/
theorem FunW.frzIn {P : Program} {f : FuncId} {ds ps : List A} {r r' : A} (h : FunW P f ds ps r) (hr : r' = frzA r) : FunW P f ds ps r' := by
  subst hr
  refine ⟨h.1, fun w imm S vs hv hSi himm hS => ?_⟩
  refine Calls.mono' (h.2 w imm S vs hv hSi himm hS) ?_
  intro e w' hq
  cases e with
  | returned v =>
    obtain ⟨imm', T1, T2, q1, q2, q3, q4, q5, q6, q7, q8, q9, q10, q11⟩ := hq
    obtain ⟨S1, l1, m1⟩ := CR.frzA _ _ _ q3
    refine ⟨fun b => imm' b ∨ (T2 b ∧ ¬ S1 b), T1, S1, fun b hb => .inl (q1 b hb), ?_, m1 _ (fun b hb => .inl hb) (fun b hb hn => .inr ⟨hb, hn⟩), fun b hb hc => q4 b hb (l1 b hc), fun b hb hc => hc.elim (q5 b hb) (fun z => q4 b hb z.1), fun b hb hc => hc.elim (q6 b (l1 b hb)) (fun z => z.2 hb), ?_, ?_, q9, q10, q11⟩
    · exact ValsR.stable (fun b hb => .inl hb) (fun _ _ => rfl) none none _ _ _ _ trivial (Set.le_refl _) (fun _ _ => rfl) q2
    · intro b hb; exact q7 b (hb.imp id (l1 b))
    · intro b hb
      rcases hb with hb | hb
      · exact q8 b hb
      · exact ⟨(q7 b (.inr hb.1)).1, .inr (q7 b (.inr hb.1)).2⟩
  | panicked _ => exact hq
  | outgrown => exact hq
theorem natc (n : Nat) : (NatCast.natCast n : Int) = (n : Int) := rfl
theorem fz_lit (v : Value) : fz (.lit v) = .lit v := by simp only [fz]
end Go.Vm
/- Arguments that are read, as data. -/
namespace Go.Vm

def offsOk (E : TE) : Nat → List (Nat × Nat) → Nat → Bool
  | o, [], n => Nat.beq o n
  | o, (p, u) :: fs, n => if Nat.beq p o then offsOk E (o + (E.info u).size) fs n else false
/-- types of numbers, bools, strings, slices and structs of each other -/
def suppB (E : TE) (S : List Nat) : Bool := S.all fun t => match (E.info t).td with
  | .int _ => true
  | .bool => true
  | .str => true
  | .slice e => hasN e S && !(Nat.beq (E.info e).size 0)
  | .struct fs => fs.all (fun f => hasN f.2 S) && offsOk E 0 fs (E.info t).size
  | _ => false

def ShF (R : Nat → List A → Prop) : List (Nat × Nat) → List A → Prop
  | [], cs => cs = []
  | (_, u) :: fs, cs => ∃ p q, cs = p ++ q ∧ R u p ∧ ShF R fs q
def Sh (E : TE) : Nat → Nat → List A → Prop
  | 0, _, _ => False
  | n + 1, t, cs => match (E.info t).td with
    | .int k => ∃ m, cs = [.lit (.int k m)] ∧ (Lit.int k m).wf = true
    | .bool => ∃ b, cs = [.lit (.bool b)]
    | .str => ∃ s : ByteArray, cs = [.lit (.string s)] ∧ s.size ≤ reachBytes
    | .slice e => ∃ rows : Rows, cs = [.tree rows] ∧ rows.length * (E.info e).bytes ≤ reachBytes ∧ ∀ r ∈ rows, Sh E n e r
    | .struct fs => ShF (Sh E n) fs cs
    | _ => False

section
variable {H : Type} {enc : TypeId × Value → H} {P : Program} {E : TE} {w : World}

theorem choose_list {α : Type} {Q : Nat → α → Prop} : ∀ (n : Nat), (∀ i, i < n → ∃ x, Q i x) → ∃ xs : List α, xs.length = n ∧ ∀ i x, xs[i]? = some x → Q i x
  | 0, _ => ⟨[], rfl, by simp⟩
  | n + 1, h => by
    obtain ⟨xs, hl, hx⟩ := choose_list n (fun i hi => h i (by omega))
    obtain ⟨x, hq⟩ := h n (by omega)
    refine ⟨xs ++ [x], by simp [hl], fun i y hy => ?_⟩
    rw [List.getElem?_append] at hy
    split at hy
    · exact hx i y hy
    · rename_i hi
      have : i = n := by
        rcases Nat.lt_or_ge (i - xs.length) 1 with h1 | h1
        · omega
        · rw [List.getElem?_eq_none (by simpa using h1)] at hy; cases hy
      subst this
      rw [hl] at hy
      simp at hy
      subst hy; exact hq

theorem rows_of {b k : Nat} {imm : Set} : ∀ (rows : Rows) (o : Nat), (∀ i r, rows[i]? = some r → r.length = k ∧ CellsR w imm none r b (o + i * k) Set.no) → RowsR w imm none rows b o k Set.no
  | [], _, _ => by simp only [RowsR]
  | r :: rs, o, h => by
    simp only [RowsR]
    obtain ⟨h1, h2⟩ := h 0 r rfl
    refine ⟨Set.no, Set.no, h1, by simpa using h2, rows_of rs (o + k) (fun i q hq => ?_), Set.le_refl _, Set.le_refl _, Set.no_dis _⟩
    obtain ⟨g1, g2⟩ := h (i + 1) q (by simpa using hq)
    refine ⟨g1, ?_⟩
    rw [show o + k + i * k = o + (i + 1) * k by rw [Nat.add_mul]; omega]
    exact g2

theorem weightsAll_mem {e : TypeId} : ∀ {ds : List (DataW H)} {i : Nat} {d : DataW H}, ds[i]? = some d → ∀ n ∈ d.weights P e, n ∈ DataW.weightsAll P e ds
  | d0 :: ds, 0, d, h, n, hn => by simp at h; subst h; simp [DataW.weightsAll, hn]
  | d0 :: ds, i + 1, d, h, n, hn => by simp at h; simp [DataW.weightsAll, weightsAll_mem h n hn]
  | [], _, _, h, _, _ => by simp at h

theorem ValsR.app {imm : Set} : ∀ {cs ds : List A} {vs us : List Value}, ValsR w imm none cs vs Set.no → ValsR w imm none ds us Set.no → ValsR w imm none (cs ++ ds) (vs ++ us) Set.no :=
  fun h1 h2 => ValsR.append h1 h2

theorem trod_sh (hE : EOk P E) {S : List Nat} (hS : suppB E S = true) : ∀ (fuel t : Nat) (cs : List Value) (x : DataW H × List MemPlace), t ∈ S → DataW.trod enc P w 0 (fun _ => true) true fuel t cs = some x →
    (∀ n ∈ x.1.weights P t, n ≤ reachBytes) → ∃ as, Sh E fuel t as ∧ ValsR w (fun b => b < w.heap.size) none as cs Set.no
  | 0, t, cs, x, _, h, _ => by simp [DataW.trod] at h
  | fuel + 1, t, cs, x, ht, h, hw => by
    have hs := List.all_eq_true.1 hS t ht
    have hone : ∀ v u, CR w (fun b => b < w.heap.size) none v u Set.no → ValsR w (fun b => b < w.heap.size) none [v] [u] Set.no := fun v u h => ValsR.of_one h
    cases htd : (E.info t).td with
    | int k =>
      obtain ⟨i, d, z, _, _, _, hd, htd', _⟩ := hE t (.inr (by rw [htd]; rfl))
      rw [htd] at htd'
      cases d <;> simp only [tdOk] at htd'
      rw [htd'] at hd
      obtain ⟨n, rfl, rfl, hwf⟩ := DataW.trod_int hd h
      exact ⟨[.lit (.int k n)], by simp only [Sh, htd]; exact ⟨n, rfl, hwf⟩, hone _ _ (by simp only [CR])⟩
    | bool =>
      obtain ⟨i, d, z, _, _, _, hd, htd', _⟩ := hE t (.inr (by rw [htd]; rfl))
      rw [htd] at htd'
      cases d <;> simp only [tdOk] at htd'
      obtain ⟨n, rfl, rfl⟩ := DataW.trod_bool hd h
      exact ⟨[.lit (.bool n)], by simp only [Sh, htd]; exact ⟨n, rfl⟩, hone _ _ (by simp only [CR])⟩
    | str =>
      obtain ⟨i, d, z, _, _, _, hd, htd', _⟩ := hE t (.inr (by rw [htd]; rfl))
      rw [htd] at htd'
      cases d <;> simp only [tdOk] at htd'
      obtain ⟨s, rfl, rfl, _⟩ := DataW.trod_string hd h
      have hsz : s.size ≤ reachBytes := by
        have h0 := hw s.data.toList.length (List.mem_singleton.2 rfl)
        rw [Array.length_toList] at h0
        exact h0
      exact ⟨[.lit (.string s)], by simp only [Sh, htd]; exact ⟨s, rfl, hsz⟩, hone _ _ (by simp only [CR])⟩
    | slice e =>
      rw [htd] at hs
      simp only [Bool.and_eq_true, hasN_iff, Bool.not_eq_true'] at hs
      obtain ⟨he, hz⟩ := hs
      obtain ⟨i, d, z, _, _, _, hd, htd', _⟩ := hE t (.inr (by rw [htd]; rfl))
      rw [htd] at htd'
      cases d <;> simp only [tdOk] at htd'
      rename_i e'
      subst htd'
      have hz' : (E.info e').size ≠ 0 := by intro h; rw [h] at hz; simp at hz
      obtain ⟨ie, de, ze, hie, hsz, hby, _⟩ := hE e' (.inl hz')
      have hco : P.cellsOf e' = (E.info e').size := by simp [Program.cellsOf, hie, hsz]
      have hbo : P.bytesOf e' = (E.info e').bytes := by simp [Program.bytesOf, hie, hby]
      rcases DataW.trod_slice hd h with ⟨rfl, rfl⟩ | ⟨a, len, cap, elems, rest, n, hfuel, rfl, rfl, _, hlc, _, hel, hget, _, _⟩
      · exact ⟨[.tree []], by simp only [Sh, htd]; exact ⟨[], rfl, by simp [reachBytes], by simp⟩, hone _ _ (by simp only [CR]; exact ⟨none, 0, by simp, Nat.le_refl _, .inl trivial⟩)⟩
      · obtain rfl : fuel = n := by omega
        have hwt : ∀ m, m ∈ (elems.map (·.1)).length * 1 :: [] → True := fun _ _ => trivial
        have hwhole : (elems.length + rest.length) * P.bytesOf e' ≤ reachBytes := hw _ (by simp [DataW.weights, hd])
        have hq : ∀ i, i < len → ∃ row : List A, Sh E fuel e' row ∧ ∃ vs : List Value, w.cells? 0 (a.add (i * P.cellsOf e')) (P.cellsOf e') = some vs ∧ ValsR w (fun b => b < w.heap.size) none row vs Set.no := by
          intro i hi
          have hg := hget i hi
          have hlt : i < elems.length := by omega
          rw [List.getElem?_eq_getElem hlt] at hg
          obtain ⟨vs, hvs, hg⟩ := Option.bind_eq_some_iff.1 hg
          obtain ⟨row, h1, h2⟩ := trod_sh hE hS fuel e' vs _ he hg (fun m hm => hw m (by
            simp only [DataW.weights, hd, List.mem_cons, List.mem_append]
            right; left
            exact weightsAll_mem (i := i) (d := elems[i].1) (by simp [hlt]) m hm))
          exact ⟨row, h1, vs, hvs, h2⟩
        obtain ⟨rows, hrl, hrows⟩ := choose_list len hq
        refine ⟨[.tree rows], ?_, hone _ _ ?_⟩
        · simp only [Sh, htd]
          refine ⟨rows, rfl, ?_, fun r hr => ?_⟩
          · rw [hrl, ← hel, ← hbo]
            exact Nat.le_trans (Nat.mul_le_mul_right _ (by omega)) hwhole
          · obtain ⟨i, hi⟩ := List.mem_iff_getElem?.1 hr
            exact (hrows i r hi).1
        · simp only [CR]
          refine ⟨some a, cap, by rw [hrl], by omega, ?_⟩
          rcases Nat.eq_zero_or_pos len with h0 | hpos
          · left; exact List.eq_nil_of_length_eq_zero (by omega)
          · right
            obtain ⟨r0, hr0⟩ : ∃ r, rows[0]? = some r := ⟨rows[0], by simp⟩
            obtain ⟨_, vs0, hvs0, _⟩ := hrows 0 r0 hr0
            obtain ⟨_, hl0, hc0⟩ := World.cells?_some hvs0
            have hu : ∃ u, w.cell? a = some u := by
              have h00 := hc0 0 (by rw [hco]; exact Nat.pos_of_ne_zero hz')
              rw [show (a.add (0 * P.cellsOf e')).add 0 = a by simp [Addr.add], List.getElem?_eq_getElem (by rw [hl0, hco]; exact Nat.pos_of_ne_zero hz')] at h00
              exact ⟨_, h00⟩
            obtain ⟨u, hu⟩ := hu
            have hspot : a.spot = none ∧ a.block < w.heap.size := by
              unfold World.cell? at hu
              split at hu
              · rename_i c q r hc
                split at hu
                · cases hu
                · rename_i hsp
                  refine ⟨by simpa using hsp, ?_⟩
                  rcases Nat.lt_or_ge a.block w.heap.size with h1 | h1
                  · exact h1
                  · rw [Array.getElem?_eq_none h1] at hc; cases hc
              · cases hu
            obtain ⟨bb, oo, sp⟩ := a
            simp only at hspot
            obtain ⟨rfl, hlt⟩ := hspot
            refine ⟨bb, oo, (E.info e').size, rfl, hlt, rows_of rows oo fun i r hi => ?_⟩
            obtain ⟨_, vs, hvs, hv⟩ := hrows i r hi
            obtain ⟨_, hl, hc⟩ := World.cells?_some hvs
            refine ⟨by rw [← hv.length, hl, hco], CellsR.of_vals hv fun j hj => ?_⟩
            rw [← hc j (by omega), hco, Addr.add_mk, Addr.add_mk]
    | struct fs =>
      rw [htd] at hs
      simp only [Bool.and_eq_true] at hs
      obtain ⟨hfs, hoff⟩ := hs
      obtain ⟨i, d, z, hi, hsz, _, hd, htd', _⟩ := hE t (.inr (by rw [htd]; rfl))
      rw [htd] at htd'
      cases d <;> simp only [tdOk] at htd'
      rename_i fields
      obtain ⟨xs, n, hfuel, rfl, hlen, hxl, hget⟩ := DataW.trod_struct hd h
      obtain rfl : fuel = n := by omega
      have hct : P.cellsOf t = (E.info t).size := by simp [Program.cellsOf, hi, hsz]
      have key : ∀ (l : List (Nat × Nat)) (j o : Nat), (∀ q, l[q]? = fs[j + q]?) → offsOk E o l (E.info t).size = true → o ≤ cs.length →
          ∃ as, ShF (Sh E fuel) l as ∧ ValsR w (fun b => b < w.heap.size) none as (cs.drop o) Set.no := by
        intro l
        induction l with
        | nil =>
          intro j o _ ho _
          simp only [offsOk] at ho
          have : o = (E.info t).size := Nat.eq_of_beq_eq_true ho
          refine ⟨[], rfl, ?_⟩
          rw [this, ← hct, ← hlen, List.drop_length]
          simp only [ValsR]
        | cons f l ih =>
          obtain ⟨p, u⟩ := f
          intro j o hq ho hle
          simp only [offsOk] at ho
          split at ho
          · rename_i hp
            obtain rfl := Nat.eq_of_beq_eq_true hp
            have hj : fs[j]? = some (p, u) := by have := hq 0; simpa using this.symm
            have hu : u ∈ S := by
              have := List.all_eq_true.1 hfs (p, u) (List.mem_of_getElem? hj)
              simpa [hasN_iff] using this
            have hfj : ∃ f : Field, fields[j]? = some f ∧ f.offset = p ∧ f.type = u := by
              rw [← htd'] at hj
              simp only [List.getElem?_map, Array.getElem?_toList, Option.map_eq_some_iff] at hj
              obtain ⟨f, hf, e⟩ := hj
              cases e
              exact ⟨f, hf, rfl, rfl⟩
            obtain ⟨f, hf, rfl, rfl⟩ := hfj
            have hg := hget j f hf
            have hjl : j < xs.length := by rw [hxl]; rcases Nat.lt_or_ge j fields.size with h1 | h1; exact h1; rw [Array.getElem?_eq_none h1] at hf; cases hf
            rw [List.getElem?_eq_getElem hjl] at hg
            obtain ⟨as, h1, h2⟩ := trod_sh hE hS fuel f.type _ _ hu hg (fun m hm => hw m (by
              simp only [DataW.weights, hd]
              refine DataW.weights_mem_each (j := j) (t := f.type) (d := xs[j].1) ?_ ?_ m hm
              · simp [hf]
              · simp [hjl]))
            -- how many cells it has
            have hsu : P.cellsOf f.type = (E.info f.type).size := by
              have hs' := List.all_eq_true.1 hS f.type hu
              have hno : isOther (E.info f.type).td = false := by cases hq : (E.info f.type).td <;> rw [hq] at hs' <;> first | rfl | cases hs'
              obtain ⟨iu, _, _, hiu, hsu, _⟩ := hE f.type (.inr hno)
              simp [Program.cellsOf, hiu, hsu]
            have hle2 : f.offset + (E.info f.type).size ≤ cs.length := by
              have : ∀ (l : List (Nat × Nat)) (o : Nat), offsOk E o l (E.info t).size = true → o ≤ (E.info t).size := by
                intro l
                induction l with
                | nil => intro o h; simp only [offsOk] at h; exact Nat.le_of_eq (Nat.eq_of_beq_eq_true h)
                | cons g l ih => 
                  intro o h
                  simp only [offsOk] at h
                  split at h
                  · have := ih _ h; omega
                  · cases h
              have := this l _ ho
              rw [hlen, hct]; exact this
            obtain ⟨bs, g1, g2⟩ := ih (j + 1) (f.offset + (E.info f.type).size) (fun q => by have := hq (q + 1); simpa [Nat.add_assoc, Nat.add_comm 1 q] using this) ho hle2
            refine ⟨as ++ bs, ⟨as, bs, rfl, h1, g1⟩, ?_⟩
            have : cs.drop f.offset = (cs.drop f.offset).take (P.cellsOf f.type) ++ cs.drop (f.offset + (E.info f.type).size) := by
              rw [hsu, ← List.drop_drop]
              exact (List.take_append_drop _ _).symm
            rw [this]
            exact ValsR.app h2 g2
          · cases ho
      obtain ⟨as, h1, h2⟩ := key fs 0 0 (fun q => by simp) hoff (Nat.zero_le _)
      exact ⟨as, by simp only [Sh, htd]; exact h1, by simpa using h2⟩
    | ptr e => rw [htd] at hs; cases hs
    | other => rw [htd] at hs; cases hs

theorem rows_all {α : Type} {c : α → List A} {W : α → Prop} : ∀ {rows : Rows}, (∀ r ∈ rows, ∃ x, r = c x ∧ W x) → ∃ l : List α, rows = l.map c ∧ ∀ x ∈ l, W x
  | [], _ => ⟨[], rfl, by simp⟩
  | r :: rs, h => by
    obtain ⟨x, e, w⟩ := h r (by simp)
    obtain ⟨l, e2, w2⟩ := rows_all (rows := rs) (fun q hq => h q (List.mem_cons_of_mem _ hq))
    refine ⟨x :: l, by rw [e, e2]; rfl, fun y hy => ?_⟩
    rcases List.mem_cons.1 hy with hy | hy
    · rw [hy]; exact w
    · exact w2 y hy
theorem sh_mono_false {n t : Nat} {cs : List A} (h : Sh E n t cs) : n ≠ 0 := by rintro rfl; exact h

end
end Go.Vm
/- Short forms for printed texts. -/
namespace Go.Vm
abbrev iA (n : Int) : A := .lit (.int .i64 n)
abbrev bA (b : Bool) : A := .lit (.bool b)
abbrev sA (s : ByteArray) : A := .lit (.string s)
abbrev tA (r : Rows) : A := .tree r
abbrev oA (k : Nat) (r : Rows) : A := .inl k r
abbrev hA : A := .hole
/-- a function by its code -/
theorem fun_go3 {P : Program} {E : TE} (hE : EOk P E) (hm : P.follows .mixedOrders = true) {f : FuncId} {fn : Func} {ts : List (Nat × Option Nat)} {rm : List Mode} {pm : List Mode} {ds post : List A} {r : A} (hf : P.funcs[f]? = some fn)
    (hok : okB2 fn ds.length ts = true) (hres : fn.results.toList = ts.map resVar)
    (h : ∀ Fn LW len cast toNat wrap add sub mul bin lt eq At set part app fz rep nadd nmax ssize sext sget scat seq slt Wide Flat Ones Room (r' : A) (post' : List A), (⟨Fn, LW, len, cast, toNat, wrap, add, sub, mul, bin, lt, eq, At, set, part, app, fz, rep, nadd, nmax, ssize, sext, sget, scat, seq, slt, Wide, Flat, Ones, Room⟩ : Ctx) = real P → (∀ f ds ds' post r, FunW P f ds' post r → ds = ds' → Fn f ds post r) → r' = r → post' = post →
      body2 E ⟨Fn, LW, len, cast, toNat, wrap, add, sub, mul, bin, lt, eq, At, set, part, app, fz, rep, nadd, nmax, ssize, sext, sget, scat, seq, slt, Wide, Flat, Ones, Room⟩ (fn.body.getD .skip) ts rm ((List.range ds.length).map (1000000 + ·)) pm ds post' r') : FunW P f ds post r :=
  fun_go2 hE hm (ts := ts) (rm := rm) (pm := pm) hf hok hres rfl fun Fn LW len cast toNat wrap add sub mul bin lt eq At set part app fz rep nadd nmax ssize sext sget scat seq slt Wide Flat Ones Room r' post' hC hF hr hp =>
    h Fn LW len cast toNat wrap add sub mul bin lt eq At set part app fz rep nadd nmax ssize sext sget scat seq slt Wide Flat Ones Room r' post' hC (fun f ds ds' post r hw e => hF f ds ds' post post r hw e rfl) hr hp
/-- runs of one number, once each -/
def uniq : List Int → List Int
  | [] => []
  | [x] => [x]
  | x :: y :: l => if x = y then uniq (y :: l) else x :: uniq (y :: l)
@[simp] theorem mnot (b : Bool) : (cond.match_1 (fun _ => Bool) b (fun _ => false) (fun _ => true)) = !b := by cases b <;> rfl
@[simp] theorem fzm (l : Rows) : (fzRows.match_1 (fun _ => Rows) l (fun _ => []) (fun r rs => fzCells r :: fzRows rs)) = fzRows l := by cases l <;> rfl
@[simp] theorem fzRows_set : ∀ (l : Rows) (i : Nat) (r : List A), fzRows (l.set i r) = (fzRows l).set i (fzCells r)
  | [], _, _ => by simp [fzRows]
  | _ :: _, 0, _ => by simp [fzRows]
  | _ :: l, i + 1, r => by simp [fzRows, fzRows_set l i r]
@[simp] theorem fzRows_app : ∀ (l l' : Rows), fzRows (l ++ l') = fzRows l ++ fzRows l'
  | [], _ => by simp [fzRows]
  | _ :: l, l' => by simp [fzRows, fzRows_app l l']
@[simp] theorem take_set_len {α β : Type} (l : List α) (f : α → β) (i : Nat) (r : β) : ((l.map f).set i r).take l.length = (l.map f).set i r := List.take_of_length_le (by simp)
/-- a test, both ways -/
theorem bcs {t : Bool} {X Y : Prop} (h1 : t = true → X) (h2 : t = false → Y) : (match (generalizing := false) t with | true => X | false => Y) := by
  cases t
  · exact h2 rfl
  · exact h1 rfl
theorem ifT {α : Type} {c : Prop} [Decidable c] {x y : Option α} {r : α} {t : Bool} (hh : (if c then x else y) = some r) (f : t = true)
    (k : t = true → c := by intro f; cases hC; cases hQ; first | exact of_decide_eq_true f | exact eq_of_beq f | exact f | (simp at f ⊢; first | done | with_reducible omega | exact f)) : x = some r := by
  rw [if_pos (k f)] at hh; exact hh
theorem ifF {α : Type} {c : Prop} [Decidable c] {x y : Option α} {r : α} {t : Bool} (hh : (if c then x else y) = some r) (f : t = false)
    (k : t = false → ¬ c := by intro f; cases hC; cases hQ; first | exact of_decide_eq_false f | exact ne_of_beq_false f | exact Bool.eq_false_iff.1 f | (simp at f ⊢; first | done | with_reducible omega | exact f)) : y = some r := by
  rw [if_neg (k f)] at hh; exact hh
/-- a bound from below -/
theorem Nb {t : Bool} {c : Prop} (h : c) (k : c → t = false := by intro h; cases hC; cases hQ; exact decide_eq_false (Int.not_lt.2 (by first | with_reducible exact h | with_reducible omega | (simp; done) | (simp; with_reducible omega) | (simp at h ⊢; with_reducible omega) | (simp at h ⊢; exact h) | (simp at h ⊢; simp only [natc] at *; with_reducible omega)))) : t = false := k h
/-- a bound from above -/
theorem Mb {t : Bool} {c : Prop} (h : c) (k : c → t = true := by intro h; cases hC; cases hQ; exact decide_eq_true (by first | with_reducible exact h | with_reducible omega | (simp; done) | (simp; with_reducible omega) | (simp at h ⊢; with_reducible omega) | (simp at h ⊢; exact h) | (simp at h ⊢; simp only [natc] at *; with_reducible omega))) : t = true := k h
/-- what is wanted, from what is known -/
theorem Wb {c g : Prop} (h : c) (k : c → g := by intro h; cases hC; cases hQ; first | with_reducible exact h | (simp; done) | (simp at h ⊢; with_reducible exact h) | (simp; with_reducible omega) | (simp at h ⊢; with_reducible omega) | (simp at h ⊢; exact h) | (simp at h ⊢; simp only [natc] at *; with_reducible omega)) : g := k h
/-- a row that was read -/
theorem Gb {α : Type} {l : List α} {i : Nat} {e : α} {g : Prop} (h : l[i]? = some e) (k : l[i]? = some e → g := by intro h; cases hC; cases hQ; first | (simp [h]; done) | (simp at h ⊢; simp [h]; done) | (have q := congrArg (Option.map fun x => [A.lit (.int .i64 x)]) h; rw [← List.getElem?_map] at q; simpa [List.map] using q) | (have q := congrArg (Option.map c_Int) h; rw [← List.getElem?_map] at q; simpa using q) | (have q := congrArg (Option.map c_GOcc) h; rw [← List.getElem?_map] at q; simpa using q) | (have q := congrArg (Option.map c_GOccO) h; rw [← List.getElem?_map] at q; simpa using q) | (have q := congrArg (Option.map c_GEv) h; rw [← List.getElem?_map] at q; simpa using q) | (have q := congrArg (Option.map c_GEx) h; rw [← List.getElem?_map] at q; simpa using q) | (have q := congrArg (Option.map c_GExO) h; rw [← List.getElem?_map] at q; simpa using q) | (have q := congrArg (Option.map c_Bool) h; rw [← List.getElem?_map] at q; simpa using q)) : g := k h
theorem Gb2 {α : Type} {l : List α} {i : Nat} {e : α} {c g : Prop} (h : l[i]? = some e) (h2 : c) (k : l[i]? = some e → c → g := by intro h h2; cases hC; cases hQ; first | (simp [h2]; done) | (simp [h, h2]; done)) : g := k h h2
theorem Zb {g : Prop} (k : g := by cases hC; cases hQ; (repeat' apply And.intro) <;> first | trivial | (with_reducible rfl) | (simp; done) | rfl | (simp <;> first | rfl | with_reducible omega | grind)) : g := k
theorem Ob {g : Prop} (k : g := by cases hC; cases hQ; first | (simp; done) | (simp; first | with_reducible omega | (simp only [natc] at *; with_reducible omega))) : g := k
/-- of all rows -/
theorem Ab {g : Prop} (k : g := by cases hC; cases hQ; first | (simp [plain, ocell]; done) | (simp [plain, ocell]; intro r hr; have qm := List.mem_of_mem_drop (List.mem_of_mem_take hr); simp at qm; obtain ⟨a, _, rfl⟩ := qm; simp [plain, ocell])) : g := k
theorem Eb {g : Prop} (k : g := by subst hr hp; cases hh; cases hC; cases hQ; (repeat' apply And.intro) <;> first | trivial | (with_reducible rfl) | (simp; done) | rfl | (simp <;> first | rfl | with_reducible omega | grind)) : g := k
theorem J0 {g : Prop} (k : g := by cases hC; cases hQ; (repeat' apply And.intro) <;> first | trivial | (with_reducible rfl) | (simp; done) | rfl | (simp <;> first | rfl | with_reducible omega | grind)) : g := k
theorem J1 {g : Prop} (k : g := by subst e; cases hC; cases hQ; (repeat' apply And.intro) <;> first | trivial | (with_reducible rfl) | (simp; done) | rfl | (simp <;> first | rfl | with_reducible omega | grind)) : g := k
theorem J2 {g : Prop} (k : g := by simp only [Prod.mk.injEq] at e; obtain ⟨rfl, rfl⟩ := e; cases hC; cases hQ; (repeat' apply And.intro) <;> first | trivial | (with_reducible rfl) | (simp; done) | rfl | (simp <;> first | rfl | with_reducible omega | grind)) : g := k
theorem J3 {g : Prop} (k : g := by simp only [Prod.mk.injEq] at e; obtain ⟨rfl, rfl, rfl⟩ := e; cases hC; cases hQ; (repeat' apply And.intro) <;> first | trivial | (with_reducible rfl) | (simp; done) | rfl | (simp <;> first | rfl | with_reducible omega | grind)) : g := k
theorem J4 {g : Prop} (k : g := by simp only [Prod.mk.injEq] at e; obtain ⟨rfl, rfl, rfl, rfl⟩ := e; cases hC; cases hQ; (repeat' apply And.intro) <;> first | trivial | (with_reducible rfl) | (simp; done) | rfl | (simp <;> first | rfl | with_reducible omega | grind)) : g := k
theorem J5 {g : Prop} (k : g := by simp only [Prod.mk.injEq] at e; obtain ⟨rfl, rfl, rfl, rfl, rfl⟩ := e; cases hC; cases hQ; (repeat' apply And.intro) <;> first | trivial | (with_reducible rfl) | (simp; done) | rfl | (simp <;> first | rfl | with_reducible omega | grind)) : g := k
theorem J6 {g : Prop} (k : g := by simp only [Prod.mk.injEq] at e; obtain ⟨rfl, rfl, rfl, rfl, rfl, rfl⟩ := e; cases hC; cases hQ; (repeat' apply And.intro) <;> first | trivial | (with_reducible rfl) | (simp; done) | rfl | (simp <;> first | rfl | with_reducible omega | grind)) : g := k
theorem J7 {g : Prop} (k : g := by simp only [Prod.mk.injEq] at e; obtain ⟨rfl, rfl, rfl, rfl, rfl, rfl, rfl⟩ := e; cases hC; cases hQ; (repeat' apply And.intro) <;> first | trivial | (with_reducible rfl) | (simp; done) | rfl | (simp <;> first | rfl | with_reducible omega | grind)) : g := k
theorem J8 {g : Prop} (k : g := by simp only [Prod.mk.injEq] at e; obtain ⟨rfl, rfl, rfl, rfl, rfl, rfl, rfl, rfl⟩ := e; cases hC; cases hQ; (repeat' apply And.intro) <;> first | trivial | (with_reducible rfl) | (simp; done) | rfl | (simp <;> first | rfl | with_reducible omega | grind)) : g := k
theorem J9 {g : Prop} (k : g := by simp only [Prod.mk.injEq] at e; obtain ⟨rfl, rfl, rfl, rfl, rfl, rfl, rfl, rfl, rfl⟩ := e; cases hC; cases hQ; (repeat' apply And.intro) <;> first | trivial | (with_reducible rfl) | (simp; done) | rfl | (simp <;> first | rfl | with_reducible omega | grind)) : g := k
/-- an atom, from a test that is known -/
theorem Tb {c : Prop} {g : Prop} (h : c) (k : c → g := by intro h; cases hC; cases hQ; first | exact decide_eq_true h | exact beq_iff_eq.2 h | exact h | (simp; done) | (simp; with_reducible omega) | (simp at h ⊢; with_reducible omega) | (simp at h ⊢; exact h) | (simp at h ⊢; simp only [natc] at *; with_reducible omega)) : g := k h
theorem Fb {c : Prop} {g : Prop} (h : ¬ c) (k : ¬ c → g := by intro h; cases hC; cases hQ; first | exact decide_eq_false h | exact beq_false_of_ne h | exact Bool.eq_false_iff.2 h | (simp; done) | (simp; with_reducible omega) | (simp at h ⊢; with_reducible omega) | (simp at h ⊢; exact h) | (simp at h ⊢; simp only [natc] at *; with_reducible omega)) : g := k h
/-- a call -/
theorem go_call {P : Program} {Fn : FuncId → List A → List A → A → Prop} (hF : ∀ f ds ds' post r, FunW P f ds' post r → ds = ds' → Fn f ds post r) {K : List A → A → Prop} {f : FuncId} {ds ds' post : List A} {r : A} (h : FunW P f ds' post r) (k : K post r)
    (e : ds = ds' := by cases hC; cases hQ; simp) : ∃ post r, Fn f ds post r ∧ K post r := ⟨post, r, hF f ds ds' post r h e, k⟩
/-- a loop whose rounds are those of a plain function -/
theorem loop_go4 {P : Program} {E : TE} {C : Ctx} (hC : C = real P) (hE : EOk P E) (hm : P.follows .mixedOrders = true) {c : Code} {Q : Ex → St → Prop} {σ : St} {ι ξ ρ : Type} (L : Nat → ι → Option ρ) (I : ι → St) (T : ξ → St) (G : ξ → ρ) (X : Ex) {n0 : Nat} {i0 : ι} {o : ρ}
    (hl : L n0 i0 = some o) (hz : ∀ i, L 0 i = none) (h0 : ∀ t, t = i0 → Cov σ (I t)) (rest : ∀ x, o = G x → Q X (T x))
    (round : ∀ (n : Nat) (i : ι) (N : St → Prop) (D : Ex → St → Prop), L (n + 1) i = some o → (∀ j σ', L n j = some o → (∀ t, t = j → Cov σ' (I t)) → N σ') → (∀ x σ', some (G x) = some o → (∀ t, t = x → Cov σ' (T t)) → D X σ') → (∀ e σ', Q e σ' → D e σ') →
      wpC E C c (fun e σ' => match e with | .normal => N σ' | e => D e σ') (I i)) (hmk : marked c = false := by rfl) : C.LW c Q σ := by
  refine loop_go3 hC hE hm (fun s : Nat × ι => I s.2) (fun s => L s.1 s.2 = some o) (fun s => s.1) (fun _ => X) T (fun x => o = G x) (n0, i0) hl (fun t e => h0 t.2 (by rw [e])) rest ?_ hmk
  rintro ⟨n, i⟩ N D hh hN hD hQ
  cases n with
  | zero => exact absurd ((hz i).symm.trans hh) (by simp)
  | succ n =>
    exact round n i N D hh (fun j σ' h hc => hN σ' (n, j) h (Nat.lt_succ_self _) fun t e => by rw [e]; exact hc j rfl) (fun x σ' h hc => hD σ' x (by simpa using h.symm) hc) hQ

end Go.Vm
