/- How data stands for memory. -/
import Derived.Test.YtlbnmldopjadoaaGreatL
namespace Go.Proofs.YtlbnmldopjadoaaGreat
open Go Go.Vm
set_option linter.unusedSimpArgs false
def c_Iu8 (x : Int) : List A := [.lit (.int .u8 x)]
def gJ (l : List Int) : Vm.Rows := l.map c_Iu8
theorem kx (l : List Int) : gJ l = l.map c_Iu8 := rfl
theorem ri (l : List Int) : aw (gJ l) = gJ l := by
  induction l with
  | nil => rfl
  | cons x xs ih => simp only [gJ, gJ, List.map_cons, aw] at ih ⊢; rw [ih]; simp [c_Iu8, c_Iu8, aL, fz]
def c_GCall (x : av) : List A := [iA x.Sym, iA x.Gap, iA x.Val]
def gR (l : List av) : Vm.Rows := l.map c_GCall
theorem jb (l : List av) : gR l = l.map c_GCall := rfl
theorem jx (l : List av) : aw (gR l) = gR l := by
  induction l with
  | nil => rfl
  | cons x xs ih => simp only [gR, gR, List.map_cons, aw] at ih ⊢; rw [ih]; simp [c_GCall, c_GCall, aL, fz]
def c_Int (x : Int) : List A := [iA x]
def dl (l : List Int) : Vm.Rows := l.map c_Int
theorem km (l : List Int) : dl l = l.map c_Int := rfl
theorem fP (l : List Int) : aw (dl l) = dl l := by
  induction l with
  | nil => rfl
  | cons x xs ih => simp only [dl, dl, List.map_cons, aw] at ih ⊢; rw [ih]; simp [c_Int, c_Int, aL, fz]
theorem pK (l : List Int) : fX (dl l) = true := by
  induction l with
  | nil => rfl
  | cons x xs ih => simp only [dl, List.map_cons, fX] at ih ⊢; rw [ih]; simp [c_Int, ga, ownd]
mutual
def c_GEx : GEx → List A
  | ⟨a0, a1, a2, a3⟩ => [iA a0, iA a1, iA a2, .tree (eM a3)]
def eM : List GEx → Vm.Rows
  | [] => []
  | x :: xs => c_GEx x :: eM xs
end
theorem gq : ∀ l : List GEx, eM l = l.map c_GEx
  | [] => rfl
  | x :: xs => by simp only [eM, List.map_cons, gq xs]
theorem lT : ∀ l : List GEx, aw (eM l) = eM l
  | [] => by simp [eM, aw]
  | ⟨a0, a1, a2, a3⟩ :: xs => by simp [eM, c_GEx, aw, aL, fz, lT xs]
def c_GRule (x : GRule) : List A := [.lit (.string x.Name), iA x.Pri, iA x.Mode, iA x.Ex.Kind, iA x.Ex.Sym, iA x.Ex.N, .tree (eM x.Ex.Kids), iA x.Low, iA x.High, iA x.Key, iA x.Add, iA x.Raise]
def gO (l : List GRule) : Vm.Rows := l.map c_GRule
theorem jd (l : List GRule) : gO l = l.map c_GRule := rfl
theorem qi (l : List GRule) : aw (gO l) = gO l := by
  induction l with
  | nil => rfl
  | cons x xs ih => simp only [gO, gO, List.map_cons, aw] at ih ⊢; rw [ih]; simp [c_GRule, c_GRule, aL, fz, lT]
mutual
def hU : GEx → List A
  | ⟨a0, a1, a2, a3⟩ => [iA a0, iA a1, iA a2, .inl 4 (gu a3)]
def gu : List GEx → Vm.Rows
  | [] => []
  | x :: xs => hU x :: gu xs
end
theorem jG : ∀ l : List GEx, gu l = l.map hU
  | [] => rfl
  | x :: xs => by simp only [gu, List.map_cons, jG xs]
mutual
theorem qL : ∀ e : GEx, aL (hU e) = c_GEx e
  | ⟨a0, a1, a2, a3⟩ => by simp [hU, c_GEx, aL, fz, kw]
theorem kw : ∀ l : List GEx, aw (gu l) = eM l
  | [] => by simp [gu, eM, aw]
  | x :: xs => by simp [gu, eM, aw, qL x, kw xs]
end
def c_GOcc (x : GOcc) : List A := [iA x.From, iA x.To, .tree (dl x.Ids)]
def cc (l : List GOcc) : Vm.Rows := l.map c_GOcc
theorem cJ (l : List GOcc) : cc l = l.map c_GOcc := rfl
theorem kZ (l : List GOcc) : ∀ r ∈ cc l, r.length = 3 := by rw [cJ]; intro r hr; obtain ⟨e, _, rfl⟩ := List.mem_map.1 hr; simp [c_GOcc]
theorem kr (l : List GOcc) : aw (cc l) = cc l := by
  induction l with
  | nil => rfl
  | cons x xs ih => simp only [cc, cc, List.map_cons, aw] at ih ⊢; rw [ih]; simp [c_GOcc, c_GOcc, aL, fz, fP]
def c_GNode (x : GNode) : List A := [iA x.Kind, iA x.Sym, iA x.N, .tree (dl x.Kids), .tree (cc x.Pair.Left), .tree (cc x.Pair.Right), .tree (cc x.Span.Left), .tree (cc x.Span.Mid), .tree (cc x.Due), iA x.Many]
def fu (l : List GNode) : Vm.Rows := l.map c_GNode
theorem iQ (l : List GNode) : fu l = l.map c_GNode := rfl
theorem gN (l : List GNode) : aw (fu l) = fu l := by
  induction l with
  | nil => rfl
  | cons x xs ih => simp only [fu, fu, List.map_cons, aw] at ih ⊢; rw [ih]; simp [c_GNode, c_GNode, aL, fz, kr, fP]
def c_GGraphS (x : GGraph) : List A := [iA x.Mode, .inl 10 (fu x.Nodes), iA x.Seen, iA x.Now, .lit (.bool x.Full)]
def ix (l : List GGraph) : Vm.Rows := l.map c_GGraphS
theorem jS (l : List GGraph) : ix l = l.map c_GGraphS := rfl
def c_GGraph (x : GGraph) : List A := [iA x.Mode, .tree (fu x.Nodes), iA x.Seen, iA x.Now, .lit (.bool x.Full)]
def eC (l : List GGraph) : Vm.Rows := l.map c_GGraph
theorem fC (l : List GGraph) : eC l = l.map c_GGraph := rfl
theorem o9 (l : List GGraph) : aw (eC l) = eC l := by
  induction l with
  | nil => rfl
  | cons x xs ih => simp only [eC, eC, List.map_cons, aw] at ih ⊢; rw [ih]; simp [c_GGraph, c_GGraph, aL, fz, gN]
theorem ov (l : List GGraph) : aw (ix l) = eC l := by
  induction l with
  | nil => rfl
  | cons x xs ih => simp only [ix, eC, List.map_cons, aw] at ih ⊢; rw [ih]; simp [c_GGraphS, c_GGraph, aL, fz, gN]
def c_GEv (x : GEv) : List A := [iA x.Sym, iA x.At, iA x.Val]
def kI (l : List GEv) : Vm.Rows := l.map c_GEv
theorem ke (l : List GEv) : kI l = l.map c_GEv := rfl
theorem oX (l : List GEv) : aw (kI l) = kI l := by
  induction l with
  | nil => rfl
  | cons x xs ih => simp only [kI, kI, List.map_cons, aw] at ih ⊢; rw [ih]; simp [c_GEv, c_GEv, aL, fz]
def c_GFire (x : aH) : List A := [iA x.Rule, iA x.Occ.From, iA x.Occ.To, .tree (dl x.Occ.Ids)]
def gQ (l : List aH) : Vm.Rows := l.map c_GFire
theorem iW (l : List aH) : gQ l = l.map c_GFire := rfl
theorem qb (l : List aH) : aw (gQ l) = gQ l := by
  induction l with
  | nil => rfl
  | cons x xs ih => simp only [gQ, gQ, List.map_cons, aw] at ih ⊢; rw [ih]; simp [c_GFire, c_GFire, aL, fz, fP]
def c_LGOcc (x : List GOcc) : List A := [.tree (cc x)]
def gP (l : List (List GOcc)) : Vm.Rows := l.map c_LGOcc
theorem iT (l : List (List GOcc)) : gP l = l.map c_LGOcc := rfl
theorem l8 (l : List (List GOcc)) : aw (gP l) = gP l := by
  induction l with
  | nil => rfl
  | cons x xs ih => simp only [gP, gP, List.map_cons, aw] at ih ⊢; rw [ih]; simp [c_LGOcc, c_LGOcc, aL, fz, kr]
def c_GOccO (x : GOcc) : List A := [iA x.From, iA x.To, .inl 1 (dl x.Ids)]
def kJ (l : List GOcc) : Vm.Rows := l.map c_GOccO
theorem lm (l : List GOcc) : kJ l = l.map c_GOccO := rfl
theorem pO (l : List GOcc) : aw (kJ l) = cc l := by
  induction l with
  | nil => rfl
  | cons x xs ih => simp only [kJ, cc, List.map_cons, aw] at ih ⊢; rw [ih]; simp [c_GOccO, c_GOcc, aL, fz, fP]
def c_LInt (x : List Int) : List A := [.tree (dl x)]
def jt (l : List (List Int)) : Vm.Rows := l.map c_LInt
theorem jA (l : List (List Int)) : jt l = l.map c_LInt := rfl
theorem nE (l : List (List Int)) : aw (jt l) = jt l := by
  induction l with
  | nil => rfl
  | cons x xs ih => simp only [jt, jt, List.map_cons, aw] at ih ⊢; rw [ih]; simp [c_LInt, c_LInt, aL, fz, fP]
@[simp] theorem r_Iu8_fzm (l : List Int) : aw (l.map c_Iu8) = l.map c_Iu8 := by rw [← kx, ri, kx]
@[simp] theorem r_GCall_fzm (l : List av) : aw (l.map c_GCall) = l.map c_GCall := by rw [← jb, jx, jb]
@[simp] theorem r_Int_fzm (l : List Int) : aw (l.map c_Int) = l.map c_Int := by rw [← km, fP, km]
@[simp] theorem r_GEx_fzm (l : List GEx) : aw (l.map c_GEx) = l.map c_GEx := by rw [← gq, lT, gq]
@[simp] theorem r_GRule_fzm (l : List GRule) : aw (l.map c_GRule) = l.map c_GRule := by rw [← jd, qi, jd]
@[simp] theorem r_GExO_fzm (l : List GEx) : aw (l.map hU) = l.map c_GEx := by rw [← jG, kw, gq]
@[simp] theorem r_GOcc_fzm (l : List GOcc) : aw (l.map c_GOcc) = l.map c_GOcc := by rw [← cJ, kr, cJ]
@[simp] theorem r_GNode_fzm (l : List GNode) : aw (l.map c_GNode) = l.map c_GNode := by rw [← iQ, gN, iQ]
@[simp] theorem rP (l : List GGraph) : aw (l.map c_GGraphS) = l.map c_GGraph := by rw [← jS, ov, fC]
@[simp] theorem sf (l : List GGraph) : aw (l.map c_GGraph) = l.map c_GGraph := by rw [← fC, o9, fC]
@[simp] theorem r_GEv_fzm (l : List GEv) : aw (l.map c_GEv) = l.map c_GEv := by rw [← ke, oX, ke]
@[simp] theorem r_GFire_fzm (l : List aH) : aw (l.map c_GFire) = l.map c_GFire := by rw [← iW, qb, iW]
@[simp] theorem r_LGOcc_fzm (l : List (List GOcc)) : aw (l.map c_LGOcc) = l.map c_LGOcc := by rw [← iT, l8, iT]
@[simp] theorem r_GOccO_fzm (l : List GOcc) : aw (l.map c_GOccO) = l.map c_GOcc := by rw [← lm, pO, cJ]
@[simp] theorem r_LInt_fzm (l : List (List Int)) : aw (l.map c_LInt) = l.map c_LInt := by rw [← jA, nE, jA]
attribute [simp] c_Iu8 kx c_GCall jb c_Int km c_GEx gq c_GRule jd hU jG c_GOcc cJ c_GNode iQ c_GGraphS jS c_GGraph fC c_GEv ke c_GFire iW c_LGOcc iT c_GOccO lm c_LInt jA
/-- the encoders, dE names -/
inductive EQ : (List Int → Vm.Rows) → (List av → Vm.Rows) → (List Int → Vm.Rows) → (List GEx → Vm.Rows) → (List GRule → Vm.Rows) → (List GEx → Vm.Rows) → (List GOcc → Vm.Rows) → (List GNode → Vm.Rows) → (List GGraph → Vm.Rows) → (List GGraph → Vm.Rows) → (List GEv → Vm.Rows) → (List aH → Vm.Rows) → (List (List GOcc) → Vm.Rows) → (List GOcc → Vm.Rows) → (List (List Int) → Vm.Rows) → Prop where
  | mk : EQ gJ gR dl eM gO gu cc fu ix eC kI gQ gP kJ jt
end Go.Proofs.YtlbnmldopjadoaaGreat
