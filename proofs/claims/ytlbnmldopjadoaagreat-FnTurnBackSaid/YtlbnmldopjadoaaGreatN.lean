/- How data stands for memory. -/
import Derived.Test.YtlbnmldopjadoaaGreatL
namespace Go.Proofs.YtlbnmldopjadoaaGreat
open Go Go.Vm
set_option linter.unusedSimpArgs false
def c_Iu8 (x : Int) : List A := [.lit (.int .u8 x)]
def gR (l : List Int) : Vm.Rows := l.map c_Iu8
theorem lO (l : List Int) : gR l = l.map c_Iu8 := rfl
theorem wb (l : List Int) : aH (gR l) = gR l := by
  induction l with
  | nil => rfl
  | cons x xs ih => simp only [gR, gR, List.map_cons, aH] at ih ⊢; rw [ih]; simp [c_Iu8, c_Iu8, bT, fz]
def c_Int (x : Int) : List A := [iA x]
def eC (l : List Int) : Vm.Rows := l.map c_Int
theorem l8 (l : List Int) : eC l = l.map c_Int := rfl
theorem gC (l : List Int) : aH (eC l) = eC l := by
  induction l with
  | nil => rfl
  | cons x xs ih => simp only [eC, eC, List.map_cons, aH] at ih ⊢; rw [ih]; simp [c_Int, c_Int, bT, fz]
theorem o4 (l : List Int) : di (eC l) = true := by
  induction l with
  | nil => rfl
  | cons x xs ih => simp only [eC, List.map_cons, di] at ih ⊢; rw [ih]; simp [c_Int, d3, ownd]
mutual
def gU : GEx → List A
  | ⟨a0, a1, a2, a3⟩ => [iA a0, iA a1, iA a2, .inl 4 (fF a3)]
def fF : List GEx → Vm.Rows
  | [] => []
  | x :: xs => gU x :: fF xs
end
theorem fX : ∀ l : List GEx, fF l = l.map gU
  | [] => rfl
  | x :: xs => by simp only [fF, List.map_cons, fX xs]
mutual
def c_GEx : GEx → List A
  | ⟨a0, a1, a2, a3⟩ => [iA a0, iA a1, iA a2, .tree (gx a3)]
def gx : List GEx → Vm.Rows
  | [] => []
  | x :: xs => c_GEx x :: gx xs
end
theorem iL : ∀ l : List GEx, gx l = l.map c_GEx
  | [] => rfl
  | x :: xs => by simp only [gx, List.map_cons, iL xs]
theorem sG : ∀ l : List GEx, aH (gx l) = gx l
  | [] => by simp [gx, aH]
  | ⟨a0, a1, a2, a3⟩ :: xs => by simp [gx, c_GEx, aH, bT, fz, sG xs]
mutual
theorem uL : ∀ e : GEx, bT (gU e) = c_GEx e
  | ⟨a0, a1, a2, a3⟩ => by simp [gU, c_GEx, bT, fz, mf]
theorem mf : ∀ l : List GEx, aH (fF l) = gx l
  | [] => by simp [fF, gx, aH]
  | x :: xs => by simp [fF, gx, aH, uL x, mf xs]
end
mutual
theorem sV : ∀ e : GEx, d3 (gU e) = true
  | ⟨a0, a1, a2, a3⟩ => by simp [gU, d3, ownd, gk]
theorem gk : ∀ l : List GEx, di (fF l) = true
  | [] => by simp [fF, di]
  | x :: xs => by simp [fF, di, sV x, gk xs]
end
def c_GEv (x : GEv) : List A := [iA x.Sym, iA x.At, iA x.Val]
def j7 (l : List GEv) : Vm.Rows := l.map c_GEv
theorem my (l : List GEv) : j7 l = l.map c_GEv := rfl
theorem gB (l : List GEv) : aH (j7 l) = j7 l := by
  induction l with
  | nil => rfl
  | cons x xs ih => simp only [j7, j7, List.map_cons, aH] at ih ⊢; rw [ih]; simp [c_GEv, c_GEv, bT, fz]
theorem oK (l : List GEv) : di (j7 l) = true := by
  induction l with
  | nil => rfl
  | cons x xs ih => simp only [j7, List.map_cons, di] at ih ⊢; rw [ih]; simp [c_GEv, d3, ownd]
def c_GOcc (x : GOcc) : List A := [iA x.From, iA x.To, .tree (eC x.Ids)]
def cQ (l : List GOcc) : Vm.Rows := l.map c_GOcc
theorem dw (l : List GOcc) : cQ l = l.map c_GOcc := rfl
theorem nB (l : List GOcc) : ∀ r ∈ cQ l, r.length = 3 := by rw [dw]; intro r hr; obtain ⟨e, _, rfl⟩ := List.mem_map.1 hr; simp [c_GOcc]
theorem mg (l : List GOcc) : aH (cQ l) = cQ l := by
  induction l with
  | nil => rfl
  | cons x xs ih => simp only [cQ, cQ, List.map_cons, aH] at ih ⊢; rw [ih]; simp [c_GOcc, c_GOcc, bT, fz, gC]
def c_GNode (x : GNode) : List A := [iA x.Kind, iA x.Sym, iA x.N, .tree (eC x.Kids), .tree (cQ x.Pair.Left), .tree (cQ x.Pair.Right), .tree (cQ x.Span.Left), .tree (cQ x.Span.Mid), .tree (cQ x.Due), iA x.Many]
def jg (l : List GNode) : Vm.Rows := l.map c_GNode
theorem kq (l : List GNode) : jg l = l.map c_GNode := rfl
theorem pe (l : List GNode) : aH (jg l) = jg l := by
  induction l with
  | nil => rfl
  | cons x xs ih => simp only [jg, jg, List.map_cons, aH] at ih ⊢; rw [ih]; simp [c_GNode, c_GNode, bT, fz, mg, gC]
def c_LGOcc (x : List GOcc) : List A := [.tree (cQ x)]
def jh (l : List (List GOcc)) : Vm.Rows := l.map c_LGOcc
theorem kj (l : List (List GOcc)) : jh l = l.map c_LGOcc := rfl
theorem uj (l : List (List GOcc)) : aH (jh l) = jh l := by
  induction l with
  | nil => rfl
  | cons x xs ih => simp only [jh, jh, List.map_cons, aH] at ih ⊢; rw [ih]; simp [c_LGOcc, c_LGOcc, bT, fz, mg]
def c_LInt (x : List Int) : List A := [.tree (eC x)]
def kP (l : List (List Int)) : Vm.Rows := l.map c_LInt
theorem kY (l : List (List Int)) : kP l = l.map c_LInt := rfl
theorem qE (l : List (List Int)) : aH (kP l) = kP l := by
  induction l with
  | nil => rfl
  | cons x xs ih => simp only [kP, kP, List.map_cons, aH] at ih ⊢; rw [ih]; simp [c_LInt, c_LInt, bT, fz, gC]
def c_GOccO (x : GOcc) : List A := [iA x.From, iA x.To, .inl 1 (eC x.Ids)]
def jk (l : List GOcc) : Vm.Rows := l.map c_GOccO
theorem kg (l : List GOcc) : jk l = l.map c_GOccO := rfl
theorem lz (l : List GOcc) : aH (jk l) = cQ l := by
  induction l with
  | nil => rfl
  | cons x xs ih => simp only [jk, cQ, List.map_cons, aH] at ih ⊢; rw [ih]; simp [c_GOccO, c_GOcc, bT, fz, gC]
theorem sa (l : List GOcc) : di (jk l) = true := by
  induction l with
  | nil => rfl
  | cons x xs ih => simp only [jk, List.map_cons, di] at ih ⊢; rw [ih]; simp [c_GOccO, d3, ownd, o4]
@[simp] theorem r_Iu8_fzm (l : List Int) : aH (l.map c_Iu8) = l.map c_Iu8 := by rw [← lO, wb, lO]
@[simp] theorem r_Int_fzm (l : List Int) : aH (l.map c_Int) = l.map c_Int := by rw [← l8, gC, l8]
@[simp] theorem r_GExO_fzm (l : List GEx) : aH (l.map gU) = l.map c_GEx := by rw [← fX, mf, iL]
@[simp] theorem r_GEx_fzm (l : List GEx) : aH (l.map c_GEx) = l.map c_GEx := by rw [← iL, sG, iL]
@[simp] theorem r_GEv_fzm (l : List GEv) : aH (l.map c_GEv) = l.map c_GEv := by rw [← my, gB, my]
@[simp] theorem r_GOcc_fzm (l : List GOcc) : aH (l.map c_GOcc) = l.map c_GOcc := by rw [← dw, mg, dw]
@[simp] theorem r_GNode_fzm (l : List GNode) : aH (l.map c_GNode) = l.map c_GNode := by rw [← kq, pe, kq]
@[simp] theorem r_LGOcc_fzm (l : List (List GOcc)) : aH (l.map c_LGOcc) = l.map c_LGOcc := by rw [← kj, uj, kj]
@[simp] theorem r_LInt_fzm (l : List (List Int)) : aH (l.map c_LInt) = l.map c_LInt := by rw [← kY, qE, kY]
@[simp] theorem r_GOccO_fzm (l : List GOcc) : aH (l.map c_GOccO) = l.map c_GOcc := by rw [← kg, lz, dw]
attribute [simp] c_Iu8 lO c_Int l8 gU fX c_GEx iL c_GEv my c_GOcc dw c_GNode kq c_LGOcc kj c_LInt kY c_GOccO kg
/-- the encoders, eb names -/
inductive EQ : (List Int → Vm.Rows) → (List Int → Vm.Rows) → (List GEx → Vm.Rows) → (List GEx → Vm.Rows) → (List GEv → Vm.Rows) → (List GOcc → Vm.Rows) → (List GNode → Vm.Rows) → (List (List GOcc) → Vm.Rows) → (List (List Int) → Vm.Rows) → (List GOcc → Vm.Rows) → Prop where
  | mk : EQ gR eC fF gx j7 cQ jg jh kP jk
end Go.Proofs.YtlbnmldopjadoaaGreat
