/- How data stands for memory. -/
import Derived.Test.YtlbnmldopjadoaaGreatL
namespace Go.Proofs.YtlbnmldopjadoaaGreat
open Go Go.Vm
set_option linter.unusedSimpArgs false
def c_Iu8 (x : Int) : List A := [.lit (.int .u8 x)]
def jj (l : List Int) : Vm.Rows := l.map c_Iu8
theorem oQ (l : List Int) : jj l = l.map c_Iu8 := rfl
theorem Ao (l : List Int) : aC (jj l) = jj l := by
  induction l with
  | nil => rfl
  | cons x xs ih => simp only [jj, jj, List.map_cons, aC] at ih ⊢; rw [ih]; simp [c_Iu8, c_Iu8, bh, fz]
mutual
def c_GEx : GEx → List A
  | ⟨a0, a1, a2, a3⟩ => [iA a0, iA a1, iA a2, .tree (iw a3)]
def iw : List GEx → Vm.Rows
  | [] => []
  | x :: xs => c_GEx x :: iw xs
end
theorem kp : ∀ l : List GEx, iw l = l.map c_GEx
  | [] => rfl
  | x :: xs => by simp only [iw, List.map_cons, kp xs]
theorem qW : ∀ l : List GEx, aC (iw l) = iw l
  | [] => by simp [iw, aC]
  | ⟨a0, a1, a2, a3⟩ :: xs => by simp [iw, c_GEx, aC, bh, fz, qW xs]
def c_GRule (x : GRule) : List A := [.lit (.string x.Name), iA x.Pri, iA x.Mode, iA x.Ex.Kind, iA x.Ex.Sym, iA x.Ex.N, .tree (iw x.Ex.Kids), iA x.Low, iA x.High, iA x.Key, iA x.Add, iA x.Raise]
def la (l : List GRule) : Vm.Rows := l.map c_GRule
theorem mB (l : List GRule) : la l = l.map c_GRule := rfl
theorem xU (l : List GRule) : aC (la l) = la l := by
  induction l with
  | nil => rfl
  | cons x xs ih => simp only [la, la, List.map_cons, aC] at ih ⊢; rw [ih]; simp [c_GRule, c_GRule, bh, fz, qW]
def c_Str (x : ByteArray) : List A := [.lit (.string x)]
def pT (l : List ByteArray) : Vm.Rows := l.map c_Str
theorem pA (l : List ByteArray) : pT l = l.map c_Str := rfl
theorem Ax (l : List ByteArray) : aC (pT l) = pT l := by
  induction l with
  | nil => rfl
  | cons x xs ih => simp only [pT, pT, List.map_cons, aC] at ih ⊢; rw [ih]; simp [c_Str, c_Str, bh, fz]
def c_Int (x : Int) : List A := [iA x]
def eI (l : List Int) : Vm.Rows := l.map c_Int
theorem oL (l : List Int) : eI l = l.map c_Int := rfl
theorem jU (l : List Int) : aC (eI l) = eI l := by
  induction l with
  | nil => rfl
  | cons x xs ih => simp only [eI, eI, List.map_cons, aC] at ih ⊢; rw [ih]; simp [c_Int, c_Int, bh, fz]
theorem rG (l : List Int) : eA (eI l) = true := by
  induction l with
  | nil => rfl
  | cons x xs ih => simp only [eI, List.map_cons, eA] at ih ⊢; rw [ih]; simp [c_Int, gb, ownd]
mutual
def jq : GEx → List A
  | ⟨a0, a1, a2, a3⟩ => [iA a0, iA a1, iA a2, .inl 4 (ij a3)]
def ij : List GEx → Vm.Rows
  | [] => []
  | x :: xs => jq x :: ij xs
end
theorem kW : ∀ l : List GEx, ij l = l.map jq
  | [] => rfl
  | x :: xs => by simp only [ij, List.map_cons, kW xs]
mutual
theorem zM : ∀ e : GEx, bh (jq e) = c_GEx e
  | ⟨a0, a1, a2, a3⟩ => by simp [jq, c_GEx, bh, fz, pt]
theorem pt : ∀ l : List GEx, aC (ij l) = iw l
  | [] => by simp [ij, iw, aC]
  | x :: xs => by simp [ij, iw, aC, zM x, pt xs]
end
mutual
theorem w6 : ∀ e : GEx, gb (jq e) = true
  | ⟨a0, a1, a2, a3⟩ => by simp [jq, gb, ownd, mF]
theorem mF : ∀ l : List GEx, eA (ij l) = true
  | [] => by simp [ij, eA]
  | x :: xs => by simp [ij, eA, w6 x, mF xs]
end
def c_GOcc (x : GOcc) : List A := [iA x.From, iA x.To, .tree (eI x.Ids)]
def c7 (l : List GOcc) : Vm.Rows := l.map c_GOcc
theorem dR (l : List GOcc) : c7 l = l.map c_GOcc := rfl
theorem qv (l : List GOcc) : ∀ r ∈ c7 l, r.length = 3 := by rw [dR]; intro r hr; obtain ⟨e, _, rfl⟩ := List.mem_map.1 hr; simp [c_GOcc]
theorem mi (l : List GOcc) : aC (c7 l) = c7 l := by
  induction l with
  | nil => rfl
  | cons x xs ih => simp only [c7, c7, List.map_cons, aC] at ih ⊢; rw [ih]; simp [c_GOcc, c_GOcc, bh, fz, jU]
def c_GNode (x : GNode) : List A := [iA x.Kind, iA x.Sym, iA x.N, .tree (eI x.Kids), .tree (c7 x.Pair.Left), .tree (c7 x.Pair.Right), .tree (c7 x.Span.Left), .tree (c7 x.Span.Mid), .tree (c7 x.Due), iA x.Many]
def iY (l : List GNode) : Vm.Rows := l.map c_GNode
theorem mD (l : List GNode) : iY l = l.map c_GNode := rfl
theorem kY (l : List GNode) : aC (iY l) = iY l := by
  induction l with
  | nil => rfl
  | cons x xs ih => simp only [iY, iY, List.map_cons, aC] at ih ⊢; rw [ih]; simp [c_GNode, c_GNode, bh, fz, mi, jU]
def c_GGraphS (x : GGraph) : List A := [iA x.Mode, .inl 10 (iY x.Nodes), iA x.Seen, iA x.Now, .lit (.bool x.Full)]
def mf (l : List GGraph) : Vm.Rows := l.map c_GGraphS
theorem ot (l : List GGraph) : mf l = l.map c_GGraphS := rfl
def c_GGraph (x : GGraph) : List A := [iA x.Mode, .tree (iY x.Nodes), iA x.Seen, iA x.Now, .lit (.bool x.Full)]
def ik (l : List GGraph) : Vm.Rows := l.map c_GGraph
theorem jw (l : List GGraph) : ik l = l.map c_GGraph := rfl
theorem wI (l : List GGraph) : aC (ik l) = ik l := by
  induction l with
  | nil => rfl
  | cons x xs ih => simp only [ik, ik, List.map_cons, aC] at ih ⊢; rw [ih]; simp [c_GGraph, c_GGraph, bh, fz, kY]
theorem vu (l : List GGraph) : aC (mf l) = ik l := by
  induction l with
  | nil => rfl
  | cons x xs ih => simp only [mf, ik, List.map_cons, aC] at ih ⊢; rw [ih]; simp [c_GGraphS, c_GGraph, bh, fz, kY]
def c_GEv (x : GEv) : List A := [iA x.Sym, iA x.At, iA x.Val]
def pO (l : List GEv) : Vm.Rows := l.map c_GEv
theorem pr (l : List GEv) : pO l = l.map c_GEv := rfl
theorem rr (l : List GEv) : aC (pO l) = pO l := by
  induction l with
  | nil => rfl
  | cons x xs ih => simp only [pO, pO, List.map_cons, aC] at ih ⊢; rw [ih]; simp [c_GEv, c_GEv, bh, fz]
def c_GFire (x : GFire) : List A := [iA x.Rule, iA x.Occ.From, iA x.Occ.To, .tree (eI x.Occ.Ids)]
def ln (l : List GFire) : Vm.Rows := l.map c_GFire
theorem mP (l : List GFire) : ln l = l.map c_GFire := rfl
theorem yn (l : List GFire) : aC (ln l) = ln l := by
  induction l with
  | nil => rfl
  | cons x xs ih => simp only [ln, ln, List.map_cons, aC] at ih ⊢; rw [ih]; simp [c_GFire, c_GFire, bh, fz, jU]
def c_LGOcc (x : List GOcc) : List A := [.tree (c7 x)]
def lp (l : List (List GOcc)) : Vm.Rows := l.map c_LGOcc
theorem mO (l : List (List GOcc)) : lp l = l.map c_LGOcc := rfl
theorem sP (l : List (List GOcc)) : aC (lp l) = lp l := by
  induction l with
  | nil => rfl
  | cons x xs ih => simp only [lp, lp, List.map_cons, aC] at ih ⊢; rw [ih]; simp [c_LGOcc, c_LGOcc, bh, fz, mi]
def c_GOccO (x : GOcc) : List A := [iA x.From, iA x.To, .inl 1 (eI x.Ids)]
def lh (l : List GOcc) : Vm.Rows := l.map c_GOccO
theorem mz (l : List GOcc) : lh l = l.map c_GOccO := rfl
theorem xV (l : List GOcc) : aC (lh l) = c7 l := by
  induction l with
  | nil => rfl
  | cons x xs ih => simp only [lh, c7, List.map_cons, aC] at ih ⊢; rw [ih]; simp [c_GOccO, c_GOcc, bh, fz, jU]
theorem vQ (l : List GOcc) : eA (lh l) = true := by
  induction l with
  | nil => rfl
  | cons x xs ih => simp only [lh, List.map_cons, eA] at ih ⊢; rw [ih]; simp [c_GOccO, gb, ownd, rG]
def c_LInt (x : List Int) : List A := [.tree (eI x)]
def mY (l : List (List Int)) : Vm.Rows := l.map c_LInt
theorem nX (l : List (List Int)) : mY l = l.map c_LInt := rfl
theorem uC (l : List (List Int)) : aC (mY l) = mY l := by
  induction l with
  | nil => rfl
  | cons x xs ih => simp only [mY, mY, List.map_cons, aC] at ih ⊢; rw [ih]; simp [c_LInt, c_LInt, bh, fz, jU]
@[simp] theorem r_Iu8_fzm (l : List Int) : aC (l.map c_Iu8) = l.map c_Iu8 := by rw [← oQ, Ao, oQ]
@[simp] theorem r_GEx_fzm (l : List GEx) : aC (l.map c_GEx) = l.map c_GEx := by rw [← kp, qW, kp]
@[simp] theorem r_GRule_fzm (l : List GRule) : aC (l.map c_GRule) = l.map c_GRule := by rw [← mB, xU, mB]
@[simp] theorem r_Str_fzm (l : List ByteArray) : aC (l.map c_Str) = l.map c_Str := by rw [← pA, Ax, pA]
@[simp] theorem r_Int_fzm (l : List Int) : aC (l.map c_Int) = l.map c_Int := by rw [← oL, jU, oL]
@[simp] theorem r_GExO_fzm (l : List GEx) : aC (l.map jq) = l.map c_GEx := by rw [← kW, pt, kp]
@[simp] theorem r_GOcc_fzm (l : List GOcc) : aC (l.map c_GOcc) = l.map c_GOcc := by rw [← dR, mi, dR]
@[simp] theorem r_GNode_fzm (l : List GNode) : aC (l.map c_GNode) = l.map c_GNode := by rw [← mD, kY, mD]
@[simp] theorem Bx (l : List GGraph) : aC (l.map c_GGraphS) = l.map c_GGraph := by rw [← ot, vu, jw]
@[simp] theorem B8 (l : List GGraph) : aC (l.map c_GGraph) = l.map c_GGraph := by rw [← jw, wI, jw]
@[simp] theorem r_GEv_fzm (l : List GEv) : aC (l.map c_GEv) = l.map c_GEv := by rw [← pr, rr, pr]
@[simp] theorem r_GFire_fzm (l : List GFire) : aC (l.map c_GFire) = l.map c_GFire := by rw [← mP, yn, mP]
@[simp] theorem r_LGOcc_fzm (l : List (List GOcc)) : aC (l.map c_LGOcc) = l.map c_LGOcc := by rw [← mO, sP, mO]
@[simp] theorem r_GOccO_fzm (l : List GOcc) : aC (l.map c_GOccO) = l.map c_GOcc := by rw [← mz, xV, dR]
@[simp] theorem r_LInt_fzm (l : List (List Int)) : aC (l.map c_LInt) = l.map c_LInt := by rw [← nX, uC, nX]
attribute [simp] c_Iu8 oQ c_GEx kp c_GRule mB c_Str pA c_Int oL jq kW c_GOcc dR c_GNode mD c_GGraphS ot c_GGraph jw c_GEv pr c_GFire mP c_LGOcc mO c_GOccO mz c_LInt nX
/-- the encoders, fb names -/
inductive EQ : (List Int → Vm.Rows) → (List GEx → Vm.Rows) → (List GRule → Vm.Rows) → (List ByteArray → Vm.Rows) → (List Int → Vm.Rows) → (List GEx → Vm.Rows) → (List GOcc → Vm.Rows) → (List GNode → Vm.Rows) → (List GGraph → Vm.Rows) → (List GGraph → Vm.Rows) → (List GEv → Vm.Rows) → (List GFire → Vm.Rows) → (List (List GOcc) → Vm.Rows) → (List GOcc → Vm.Rows) → (List (List Int) → Vm.Rows) → Prop where
  | mk : EQ jj iw la pT eI ij c7 iY mf ik pO ln lp lh mY
end Go.Proofs.YtlbnmldopjadoaaGreat
