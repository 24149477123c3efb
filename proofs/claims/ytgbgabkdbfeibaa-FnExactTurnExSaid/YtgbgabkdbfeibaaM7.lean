/- Trees: sizes and copies. -/
import Derived.Test.YtgbgabkdbfeibaaM2
namespace Go.Proofs.Ytgbgabkdbfeibaa
open Go Go.Vm
set_option linter.unusedVariables false
mutual
/-- how many nodes -/
def exN : GEx → Nat
  | ⟨_, _, _, ks⟩ => 1 + exNs ks
def exNs : List GEx → Nat
  | [] => 0
  | x :: xs => exN x + exNs xs
end
theorem exNs_nil : exNs [] = 0 := by simp only [exNs]
theorem exNs_cons (x : GEx) (xs : List GEx) : exNs (x :: xs) = exN x + exNs xs := by simp only [exNs]
theorem exN_eq (e : GEx) : exN e = 1 + exNs e.Kids := by cases e; simp only [exN]
theorem exNs_len : ∀ l : List GEx, l.length ≤ exNs l
  | [] => by simp [exNs_nil]
  | x :: xs => by have := exNs_len xs; rw [exNs_cons, exN_eq]; simp only [List.length_cons]; omega
theorem exNs_mem {e : GEx} : ∀ {l : List GEx}, e ∈ l → exN e ≤ exNs l
  | x :: xs, h => by
    rw [exNs_cons]
    rcases List.mem_cons.1 h with rfl | h
    · omega
    · have := exNs_mem h; omega
mutual
theorem exInd {P : GEx → Prop} (h : ∀ e : GEx, (∀ x ∈ e.Kids, P x) → P e) : ∀ e, P e
  | ⟨a, b, c, ks⟩ => h ⟨a, b, c, ks⟩ (exIndS h ks)
theorem exIndS {P : GEx → Prop} (h : ∀ e : GEx, (∀ x ∈ e.Kids, P x) → P e) : ∀ l : List GEx, ∀ x ∈ l, P x
  | [], _, hx => by simp at hx
  | y :: ys, x, hx => by
    rcases List.mem_cons.1 hx with e | hx
    · rw [e]; exact exInd h y
    · exact exIndS h ys x hx
end
mutual
/-- lengths that memory can hold, all the way down -/
def exSm : GEx → Prop
  | ⟨_, _, _, ks⟩ => ks.length < 4611686018427387904 ∧ exSms ks
def exSms : List GEx → Prop
  | [] => True
  | x :: xs => exSm x ∧ exSms xs
end
theorem exSms_mem {e : GEx} : ∀ {l : List GEx}, exSms l → e ∈ l → exSm e
  | x :: xs, hs, h => by
    simp only [exSms] at hs
    rcases List.mem_cons.1 h with rfl | h
    · exact hs.1
    · exact exSms_mem hs.2 h
theorem exSm_eq {e : GEx} (h : exSm e) : e.Kids.length < 4611686018427387904 ∧ ∀ x ∈ e.Kids, exSm x := by
  cases e; simp only [exSm] at h; exact ⟨h.1, fun x hx => exSms_mem h.2 hx⟩
theorem szExS_loop (k : Nat) (rec' : GEx → Int → Option Int) (l : List GEx)
    (H : ∀ e ∈ l, ∀ s : Int, 0 ≤ s → s ≤ 1048576 → rec' e s = some (if (exNs e.Kids : Int) ≤ s then s - exNs e.Kids else -1)) (hl : l.length < 4611686018427387904) :
    ∀ (d n i : Nat) (s : Int), i + d = l.length → d < n → 0 ≤ s → s ≤ 1048576 →
      laws_szExS.l0 k rec' l n s (i : Int) = some (if ((exNs (l.drop i) : Nat) : Int) - ((l.drop i).length : Nat) ≤ s then .ok (s - (((exNs (l.drop i) : Nat) : Int) - ((l.drop i).length : Nat))) else .error (-1)) := by
  intro d
  induction d with
  | zero =>
    intro n i s hi hn h0 h1
    obtain ⟨n, rfl⟩ : ∃ m, n = m + 1 := ⟨n - 1, by omega⟩
    rw [laws_szExS.l0, if_neg (by omega), List.drop_eq_nil_of_le (by omega), exNs_nil]
    simp [h0]
  | succ d ih =>
    intro n i s hi hn h0 h1
    obtain ⟨n, rfl⟩ : ∃ m, n = m + 1 := ⟨n - 1, by omega⟩
    have hlt : i < l.length := by omega
    rw [laws_szExS.l0, if_pos (by omega), req_pos (by omega), Int.toNat_natCast, List.getElem?_eq_getElem hlt, List.drop_eq_getElem_cons hlt, exNs_cons, exN_eq]
    simp only [Option.bind_some, H l[i] (List.getElem_mem hlt) s h0 h1, List.length_cons]
    have hq := exNs_len (l.drop (i + 1))
    by_cases h : (exNs l[i].Kids : Int) ≤ s
    · rw [if_pos h, if_neg (by omega), wrS i (by omega), ih n (i + 1) _ (by omega) (by omega) (by omega) (by omega)]
      by_cases h2 : ((exNs (l.drop (i + 1)) : Nat) : Int) - ((l.drop (i + 1)).length : Nat) ≤ s - exNs l[i].Kids
      · rw [if_pos h2, if_pos (by push_cast; omega)]
        congr 2; push_cast; omega
      · rw [if_neg h2, if_neg (by push_cast; omega)]
    · rw [if_neg h, if_pos (by decide), if_neg (by push_cast; omega)]
theorem szExS_k (l : List GEx) (hl : l.length < 4611686018427387904)
    (H : ∀ e ∈ l, ∀ (k : Nat) (s : Int), 3 * exN e ≤ k → 0 ≤ s → s ≤ 1048576 → laws_szEx.f k e s = some (if (exNs e.Kids : Int) ≤ s then s - exNs e.Kids else -1)) :
    ∀ (k : Nat) (s : Int), 3 * exNs l + 2 ≤ k → 0 ≤ s → s ≤ 1048576 → laws_szExS.f k l s = some (if (exNs l : Int) ≤ s then s - exNs l else -1) := by
  intro k s hk h0 h1
  obtain ⟨k, rfl⟩ : ∃ m, k = m + 1 := ⟨k - 1, by omega⟩
  have hq := exNs_len l
  rw [laws_szExS.f, wr (s - _) (by omega)]
  by_cases h : s - (l.length : Int) < 0
  · rw [if_pos h, if_neg (by omega)]
  · rw [if_neg h]
    have := szExS_loop k (laws_szEx.f k) l (fun e he s g0 g1 => H e he k s (by have := exNs_mem he; omega) g0 g1) hl l.length k 0 (s - l.length) (by omega) (by omega) (by omega) (by omega)
    rw [show ((0 : Nat) : Int) = 0 from rfl, List.drop_zero] at this
    rw [this]
    by_cases h2 : (exNs l : Int) ≤ s
    · rw [if_pos (by omega), if_pos h2]
      simp only [Option.bind_some, Option.some.injEq]; omega
    · rw [if_neg (by omega), if_neg h2]; rfl
theorem szEx_k : ∀ e : GEx, exSm e → ∀ (k : Nat) (s : Int), 3 * exN e ≤ k → 0 ≤ s → s ≤ 1048576 → laws_szEx.f k e s = some (if (exNs e.Kids : Int) ≤ s then s - exNs e.Kids else -1) := by
  refine exInd fun e ih hs k s hk h0 h1 => ?_
  obtain ⟨hl, hks⟩ := exSm_eq hs
  rw [exN_eq] at hk
  obtain ⟨k, rfl⟩ : ∃ m, k = m + 1 := ⟨k - 1, by omega⟩
  rw [laws_szEx.f, szExS_k e.Kids hl (fun x hx k s => ih x hx (hks x hx) k s) k s (by omega) h0 h1]
  simp only [Option.bind_some]
  by_cases h : (exNs e.Kids : Int) ≤ s
  · rw [if_pos h, if_neg (by omega)]
  · rw [if_neg h, if_pos (by decide)]
/- copies -/
theorem toExS_loop (k : Nat) (rec' : GEx → Option GEx) (l : List GEx) (hl : l.length < 4611686018427387904) (H : ∀ e ∈ l, rec' e = some e) :
    ∀ (d n i : Nat) (acc : List GEx), i + d = l.length → d < n → acc.length = l.length → acc.take i = l.take i → laws_toExS.l0 k rec' l n acc (i : Int) = some l := by
  intro d
  induction d with
  | zero =>
    intro n i acc hi hn ha ht
    obtain ⟨n, rfl⟩ : ∃ m, n = m + 1 := ⟨n - 1, by omega⟩
    rw [laws_toExS.l0, if_neg (by omega)]
    rw [show i = l.length by omega, List.take_length, ← ha, List.take_length] at ht
    rw [ht]
  | succ d ih =>
    intro n i acc hi hn ha ht
    obtain ⟨n, rfl⟩ : ∃ m, n = m + 1 := ⟨n - 1, by omega⟩
    have hlt : i < l.length := by omega
    rw [laws_toExS.l0, if_pos (by omega), req_pos (by omega), Int.toNat_natCast, List.getElem?_eq_getElem hlt]
    simp only [Option.bind_some, H l[i] (List.getElem_mem hlt)]
    rw [req_pos (by omega), req_pos (by omega), List.getElem?_eq_getElem (show i < acc.length by omega)]
    simp only [Option.bind_some]
    rw [wrS i (by omega)]
    refine ih n (i + 1) _ (by omega) (by omega) (by simpa using ha) ?_
    rw [List.take_add_one, List.take_set_of_le (Nat.le_refl _), ht, List.take_add_one]
    simp [hlt, ha]
theorem toEx_k : ∀ e : GEx, exN e ≤ 1048577 → ∀ k : Nat, 3 * exN e ≤ k → laws_toEx.f k e = some e := by
  refine exInd fun e ih hs k hk => ?_
  rw [exN_eq] at hk hs
  have hq := exNs_len e.Kids
  obtain ⟨k, rfl⟩ : ∃ m, k = m + 2 := ⟨k - 2, by omega⟩
  rw [laws_toEx.f, laws_toExS.f, req_pos (by omega), req_pos (by omega), req_pos (by omega)]
  have := toExS_loop k (laws_toEx.f k) e.Kids (by omega) (fun x hx => ih x hx (by have := exNs_mem hx; omega) k (by have := exNs_mem hx; omega)) e.Kids.length k 0 (List.replicate e.Kids.length ⟨0, 0, 0, []⟩) (by omega) (by omega) (by simp) (by simp)
  rw [show ((0 : Nat) : Int) = 0 from rfl] at this
  rw [this]; cases e; rfl
theorem eqExS_loop (k : Nat) (rec' : GEx → GEx → Option Bool) (l : List GEx) (hl : l.length < 4611686018427387904) (H : ∀ e ∈ l, rec' e e = some true) :
    ∀ (d n i : Nat), i + d = l.length → d < n → laws_eqExS.l0 k rec' l l n (i : Int) = some (.ok ()) := by
  intro d
  induction d with
  | zero =>
    intro n i hi hn
    obtain ⟨n, rfl⟩ : ∃ m, n = m + 1 := ⟨n - 1, by omega⟩
    rw [laws_eqExS.l0, if_neg (by omega)]
  | succ d ih =>
    intro n i hi hn
    obtain ⟨n, rfl⟩ : ∃ m, n = m + 1 := ⟨n - 1, by omega⟩
    have hlt : i < l.length := by omega
    rw [laws_eqExS.l0, if_pos (by omega), req_pos (by omega), Int.toNat_natCast, List.getElem?_eq_getElem hlt]
    simp only [Option.bind_some]
    rw [req_pos (by omega)]
    simp only [H l[i] (List.getElem_mem hlt), Option.bind_some, if_true]
    rw [wrS i (by omega)]
    exact ih n (i + 1) (by omega) (by omega)
theorem eqEx_k : ∀ e : GEx, exN e ≤ 1048577 → ∀ k : Nat, 3 * exN e ≤ k → laws_eqEx.f k e e = some true := by
  refine exInd fun e ih hs k hk => ?_
  rw [exN_eq] at hk hs
  have hq := exNs_len e.Kids
  obtain ⟨k, rfl⟩ : ∃ m, k = m + 2 := ⟨k - 2, by omega⟩
  rw [laws_eqEx.f, if_pos rfl, if_pos rfl, if_pos rfl, laws_eqExS.f, if_pos rfl]
  have := eqExS_loop k (laws_eqEx.f k) e.Kids (by omega) (fun x hx => ih x hx (by have := exNs_mem hx; omega) k (by have := exNs_mem hx; omega)) e.Kids.length k 0 (by omega) (by omega)
  rw [show ((0 : Nat) : Int) = 0 from rfl] at this
  rw [this]; rfl
/- marks -/
mutual
def mkEx : Int → GEx → GEx
  | j, ⟨_, _, _, ks⟩ => ⟨j, j + 1, j + 2, mkExs (j + 3) ks⟩
def mkExs : Int → List GEx → List GEx
  | _, [] => []
  | j, x :: xs => mkEx j x :: mkExs (j + 3 * exN x) xs
end
theorem mkEx_eq (j : Int) (e : GEx) : mkEx j e = ⟨j, j + 1, j + 2, mkExs (j + 3) e.Kids⟩ := by cases e; simp only [mkEx]
theorem mkExs_nil (j : Int) : mkExs j [] = [] := by simp only [mkExs]
theorem mkExs_cons (j : Int) (x : GEx) (xs : List GEx) : mkExs j (x :: xs) = mkEx j x :: mkExs (j + 3 * exN x) xs := by simp only [mkExs]
theorem mkExs_len : ∀ (l : List GEx) (j : Int), (mkExs j l).length = l.length
  | [], j => by rw [mkExs_nil]
  | x :: xs, j => by rw [mkExs_cons]; simp only [List.length_cons, mkExs_len xs]
theorem markExS_loop (k : Nat) (rec' : List GEx → Int → Option (Int × List GEx)) : ∀ (l done : List GEx) (n : Nat) (s : Int),
    (∀ e ∈ l, ∀ j : Int, 0 ≤ j → j + 3 * exNs e.Kids ≤ 100000000 → rec' e.Kids j = some (j + 3 * exNs e.Kids, mkExs j e.Kids)) →
    done.length + l.length ≤ 1048577 → l.length < n → 0 ≤ s → s + 3 * exNs l ≤ 100000000 →
    laws_markExS.l0 k rec' n (done ++ l) s (done.length : Nat) = some (s + 3 * exNs l, done ++ mkExs s l)
  | [], done, n, s, H, hl, hn, h0, h1 => by
    obtain ⟨n, rfl⟩ : ∃ m, n = m + 1 := ⟨n - 1, by omega⟩
    rw [laws_markExS.l0, if_neg (by simp), exNs_nil, mkExs_nil]; simp
  | x :: xs, done, n, s, H, hl, hn, h0, h1 => by
    obtain ⟨n, rfl⟩ : ∃ m, n = m + 1 := ⟨n - 1, by omega⟩
    rw [exNs_cons, exN_eq] at h1
    simp only [List.length_cons] at hl hn
    have hx := H x (List.mem_cons_self ..) (s + 3) (by omega) (by push_cast at h1; omega)
    rw [laws_markExS.l0, if_pos (by simp; omega)]
    repeat rw [req_pos (show (0 : Int) ≤ ((done.length : Nat) : Int) by omega)]
    repeat rw [req_pos (show ((done.length : Nat) : Int) < ((done ++ x :: xs).length : Nat) by simp; omega)]
    rw [Int.toNat_natCast, List.getElem?_append_right (Nat.le_refl _), Nat.sub_self]
    simp only [List.getElem?_cons_zero, Option.bind_some, List.set_set]
    repeat rw [req_pos (show (0 : Int) ≤ ((done.length : Nat) : Int) by omega)]
    repeat rw [req_pos (show ((done.length : Nat) : Int) < ((done ++ x :: xs).length : Nat) by simp; omega)]
    push_cast at h1
    rw [wr (s + 1) (by omega), wr (s + 1 + 1) (by omega), wr (s + 1 + 1 + 1) (by omega), show s + 1 + 1 + 1 = s + 3 by omega, show s + 1 + 1 = s + 2 by omega, hx]
    simp only [Option.bind_some]
    rw [req_pos (mkExs_len _ _), wrS done.length (by omega)]
    have e : (done ++ x :: xs).set done.length ⟨s, s + 1, s + 2, mkExs (s + 3) x.Kids⟩ = (done ++ [mkEx s x]) ++ xs := by
      rw [List.set_append_right _ _ (Nat.le_refl _), Nat.sub_self, List.set_cons_zero, mkEx_eq]; simp
    have := markExS_loop k rec' xs (done ++ [mkEx s x]) n (s + 3 * exN x) (fun e he => H e (List.mem_cons_of_mem _ he)) (by simp; omega) (by omega) (by omega) (by rw [exN_eq]; push_cast; omega)
    rw [e, show s + 3 + 3 * ((exNs x.Kids : Nat) : Int) = s + 3 * ((exN x : Nat) : Int) by rw [exN_eq]; push_cast; omega]
    rw [show (done ++ [mkEx s x]).length = done.length + 1 by simp] at this
    rw [this, exNs_cons, mkExs_cons, List.append_assoc]
    congr 2; push_cast; omega
theorem markExS_all : ∀ e : GEx, exN e ≤ 1048577 → ∀ (k : Nat) (j : Int), 3 * exN e ≤ k → 0 ≤ j → j + 3 * exNs e.Kids ≤ 100000000 → laws_markExS.f k e.Kids j = some (j + 3 * exNs e.Kids, mkExs j e.Kids) := by
  refine exInd fun e ih hs k j hk h0 h1 => ?_
  rw [exN_eq] at hk hs
  have hq := exNs_len e.Kids
  obtain ⟨k, rfl⟩ : ∃ m, k = m + 1 := ⟨k - 1, by omega⟩
  have := markExS_loop k (laws_markExS.f k) e.Kids [] k j (fun x hx j g0 g1 => ih x hx (by have := exNs_mem hx; omega) k j (by have := exNs_mem hx; omega) g0 g1) (by simp; omega) (by omega) h0 h1
  rw [laws_markExS.f]
  rw [show (([] : List GEx).length : Nat) = 0 from rfl, List.nil_append] at this
  rw [show ((0 : Nat) : Int) = 0 from rfl] at this
  rw [this]; rfl
theorem heldExS_loop (k : Nat) (rec' : List GEx → Int → Option Int) : ∀ (l : List GEx) (done : List GEx) (n : Nat) (s : Int),
    (∀ e ∈ l, ∀ j : Int, 0 ≤ j → j + 3 * exNs e.Kids ≤ 100000000 → rec' (mkExs j e.Kids) j = some (j + 3 * exNs e.Kids)) →
    done.length + l.length ≤ 1048577 → l.length < n → 0 ≤ s → s + 3 * exNs l ≤ 100000000 →
    laws_heldExS.l0 k rec' (done ++ mkExs s l) n s (done.length : Nat) = some (.ok (s + 3 * exNs l))
  | [], done, n, s, H, hl, hn, h0, h1 => by
    obtain ⟨n, rfl⟩ : ∃ m, n = m + 1 := ⟨n - 1, by omega⟩
    rw [laws_heldExS.l0, if_neg (by rw [mkExs_nil]; simp), exNs_nil]; simp
  | x :: xs, done, n, s, H, hl, hn, h0, h1 => by
    obtain ⟨n, rfl⟩ : ∃ m, n = m + 1 := ⟨n - 1, by omega⟩
    rw [exNs_cons, exN_eq] at h1
    simp only [List.length_cons] at hl hn
    push_cast at h1
    have hx := H x (List.mem_cons_self ..) (s + 3) (by omega) (by omega)
    have hg : (done ++ mkExs s (x :: xs))[done.length]? = some (mkEx s x) := by
      rw [List.getElem?_append_right (Nat.le_refl _), Nat.sub_self, mkExs_cons]; rfl
    rw [laws_heldExS.l0, if_pos (by rw [mkExs_cons]; simp; omega)]
    simp only [req_pos (show (0 : Int) ≤ ((done.length : Nat) : Int) by omega), Int.toNat_natCast, hg, Option.bind_some, mkEx_eq, if_true]
    rw [wr (s + 1) (by omega), if_pos rfl, wr (s + 1 + 1) (by omega), if_pos (by omega), wr (s + 1 + 1 + 1) (by omega), show s + 1 + 1 + 1 = s + 3 by omega, hx]
    simp only [Option.bind_some]
    rw [if_neg (by omega), wrS done.length (by omega)]
    have := heldExS_loop k rec' xs (done ++ [mkEx s x]) n (s + 3 * exN x) (fun e he => H e (List.mem_cons_of_mem _ he)) (by simp; omega) (by omega) (by omega) (by rw [exN_eq]; push_cast; omega)
    rw [show (done ++ [mkEx s x]).length = done.length + 1 by simp, List.append_assoc, show [mkEx s x] ++ mkExs (s + 3 * exN x) xs = mkExs s (x :: xs) by rw [mkExs_cons]; rfl] at this
    rw [show s + 3 + 3 * ((exNs x.Kids : Nat) : Int) = s + 3 * ((exN x : Nat) : Int) by rw [exN_eq]; push_cast; omega, this, exNs_cons]
    congr 2; push_cast; omega
theorem heldExS_all : ∀ e : GEx, exN e ≤ 1048577 → ∀ (k : Nat) (j : Int), 3 * exN e ≤ k → 0 ≤ j → j + 3 * exNs e.Kids ≤ 100000000 → laws_heldExS.f k (mkExs j e.Kids) j = some (j + 3 * exNs e.Kids) := by
  refine exInd fun e ih hs k j hk h0 h1 => ?_
  rw [exN_eq] at hk hs
  have hq := exNs_len e.Kids
  obtain ⟨k, rfl⟩ : ∃ m, k = m + 1 := ⟨k - 1, by omega⟩
  have := heldExS_loop k (laws_heldExS.f k) e.Kids [] k j (fun x hx j g0 g1 => ih x hx (by have := exNs_mem hx; omega) k j (by have := exNs_mem hx; omega) g0 g1) (by simp; omega) (by omega) h0 h1
  rw [laws_heldExS.f]
  rw [show (([] : List GEx).length : Nat) = 0 from rfl, List.nil_append] at this
  rw [show ((0 : Nat) : Int) = 0 from rfl] at this
  rw [this]; rfl
end Go.Proofs.Ytgbgabkdbfeibaa
