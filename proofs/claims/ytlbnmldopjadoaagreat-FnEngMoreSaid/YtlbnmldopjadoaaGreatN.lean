/- How data stands for memory. -/
import Derived.Test.YtlbnmldopjadoaaGreatL
namespace Go.Proofs.YtlbnmldopjadoaaGreat
open Go Go.Vm
set_option linter.unusedSimpArgs false
def c_Iu8 (x : Int) : List A := [.lit (.int .u8 x)]
def jy (l : List Int) : Vm.Rows := l.map c_Iu8
theorem oW (l : List Int) : jy l = l.map c_Iu8 := rfl
theorem AS (l : List Int) : aD (jy l) = jy l := by
  induction l with
  | nil => rfl
  | cons x xs ih => simp only [jy, jy, List.map_cons, aD] at ih ⊢; rw [ih]; simp [c_Iu8, c_Iu8, bh, fz]
mutual
def c_GEx : GEx → List A
  | ⟨a0, a1, a2, a3⟩ => [iA a0, iA a1, iA a2, .tree (iH a3)]
def iH : List GEx → Vm.Rows
  | [] => []
  | x :: xs => c_GEx x :: iH xs
end
theorem kx : ∀ l : List GEx, iH l = l.map c_GEx
  | [] => rfl
  | x :: xs => by simp only [iH, List.map_cons, kx xs]
theorem rl : ∀ l : List GEx, aD (iH l) = iH l
  | [] => by simp [iH, aD]
  | ⟨a0, a1, a2, a3⟩ :: xs => by simp [iH, c_GEx, aD, bh, fz, rl xs]
def c_GRule (x : GRule) : List A := [.lit (.string x.Name), iA x.Pri, iA x.Mode, iA x.Ex.Kind, iA x.Ex.Sym, iA x.Ex.N, .tree (iH x.Ex.Kids), iA x.Low, iA x.High, iA x.Key, iA x.Add, iA x.Raise]
def lu (l : List GRule) : Vm.Rows := l.map c_GRule
theorem mG (l : List GRule) : lu l = l.map c_GRule := rfl
theorem nO (l : List GRule) : aD (lu l) = lu l := by
  induction l with
  | nil => rfl
  | cons x xs ih => simp only [lu, lu, List.map_cons, aD] at ih ⊢; rw [ih]; simp [c_GRule, c_GRule, bh, fz, rl]
def c_Str (x : ByteArray) : List A := [.lit (.string x)]
def qa (l : List ByteArray) : Vm.Rows := l.map c_Str
theorem pH (l : List ByteArray) : qa l = l.map c_Str := rfl
theorem A3 (l : List ByteArray) : aD (qa l) = qa l := by
  induction l with
  | nil => rfl
  | cons x xs ih => simp only [qa, qa, List.map_cons, aD] at ih ⊢; rw [ih]; simp [c_Str, c_Str, bh, fz]
def c_Int (x : Int) : List A := [iA x]
def eP (l : List Int) : Vm.Rows := l.map c_Int
theorem oQ (l : List Int) : eP l = l.map c_Int := rfl
theorem j4 (l : List Int) : aD (eP l) = eP l := by
  induction l with
  | nil => rfl
  | cons x xs ih => simp only [eP, eP, List.map_cons, aD] at ih ⊢; rw [ih]; simp [c_Int, c_Int, bh, fz]
theorem xV (l : List Int) : fZ (eP l) = true := by
  induction l with
  | nil => rfl
  | cons x xs ih => simp only [eP, List.map_cons, fZ] at ih ⊢; rw [ih]; simp [c_Int, iG, ownd]
mutual
def jD : GEx → List A
  | ⟨a0, a1, a2, a3⟩ => [iA a0, iA a1, iA a2, .inl 4 (iw a3)]
def iw : List GEx → Vm.Rows
  | [] => []
  | x :: xs => jD x :: iw xs
end
theorem lj : ∀ l : List GEx, iw l = l.map jD
  | [] => rfl
  | x :: xs => by simp only [iw, List.map_cons, lj xs]
mutual
theorem Aq : ∀ e : GEx, bh (jD e) = c_GEx e
  | ⟨a0, a1, a2, a3⟩ => by simp [jD, c_GEx, bh, fz, pD]
theorem pD : ∀ l : List GEx, aD (iw l) = iH l
  | [] => by simp [iw, iH, aD]
  | x :: xs => by simp [iw, iH, aD, Aq x, pD xs]
end
mutual
theorem xq : ∀ e : GEx, iG (jD e) = true
  | ⟨a0, a1, a2, a3⟩ => by simp [jD, iG, ownd, mJ]
theorem mJ : ∀ l : List GEx, fZ (iw l) = true
  | [] => by simp [iw, fZ]
  | x :: xs => by simp [iw, fZ, xq x, mJ xs]
end
def c_GOcc (x : GOcc) : List A := [iA x.From, iA x.To, .tree (eP x.Ids)]
def df (l : List GOcc) : Vm.Rows := l.map c_GOcc
theorem d8 (l : List GOcc) : df l = l.map c_GOcc := rfl
theorem qG (l : List GOcc) : ∀ r ∈ df l, r.length = 3 := by rw [d8]; intro r hr; obtain ⟨e, _, rfl⟩ := List.mem_map.1 hr; simp [c_GOcc]
theorem kE (l : List GOcc) : aD (df l) = df l := by
  induction l with
  | nil => rfl
  | cons x xs ih => simp only [df, df, List.map_cons, aD] at ih ⊢; rw [ih]; simp [c_GOcc, c_GOcc, bh, fz, j4]
def c_GNode (x : GNode) : List A := [iA x.Kind, iA x.Sym, iA x.N, .tree (eP x.Kids), .tree (df x.Pair.Left), .tree (df x.Pair.Right), .tree (df x.Span.Left), .tree (df x.Span.Mid), .tree (df x.Due), iA x.Many]
def jm (l : List GNode) : Vm.Rows := l.map c_GNode
theorem mI (l : List GNode) : jm l = l.map c_GNode := rfl
theorem lp (l : List GNode) : aD (jm l) = jm l := by
  induction l with
  | nil => rfl
  | cons x xs ih => simp only [jm, jm, List.map_cons, aD] at ih ⊢; rw [ih]; simp [c_GNode, c_GNode, bh, fz, kE, j4]
def c_GGraphS (x : GGraph) : List A := [iA x.Mode, .inl 10 (jm x.Nodes), iA x.Seen, iA x.Now, .lit (.bool x.Full)]
def mu (l : List GGraph) : Vm.Rows := l.map c_GGraphS
theorem ov (l : List GGraph) : mu l = l.map c_GGraphS := rfl
def c_GGraph (x : GGraph) : List A := [iA x.Mode, .tree (jm x.Nodes), iA x.Seen, iA x.Now, .lit (.bool x.Full)]
def ix (l : List GGraph) : Vm.Rows := l.map c_GGraph
theorem jH (l : List GGraph) : ix l = l.map c_GGraph := rfl
theorem wZ (l : List GGraph) : aD (ix l) = ix l := by
  induction l with
  | nil => rfl
  | cons x xs ih => simp only [ix, ix, List.map_cons, aD] at ih ⊢; rw [ih]; simp [c_GGraph, c_GGraph, bh, fz, lp]
theorem vF (l : List GGraph) : aD (mu l) = ix l := by
  induction l with
  | nil => rfl
  | cons x xs ih => simp only [mu, ix, List.map_cons, aD] at ih ⊢; rw [ih]; simp [c_GGraphS, c_GGraph, bh, fz, lp]
def c_GEv (x : GEv) : List A := [iA x.Sym, iA x.At, iA x.Val]
def pW (l : List GEv) : Vm.Rows := l.map c_GEv
theorem pC (l : List GEv) : pW l = l.map c_GEv := rfl
theorem oj (l : List GEv) : aD (pW l) = pW l := by
  induction l with
  | nil => rfl
  | cons x xs ih => simp only [pW, pW, List.map_cons, aD] at ih ⊢; rw [ih]; simp [c_GEv, c_GEv, bh, fz]
def c_GFire (x : GFire) : List A := [iA x.Rule, iA x.Occ.From, iA x.Occ.To, .tree (eP x.Occ.Ids)]
def lz (l : List GFire) : Vm.Rows := l.map c_GFire
theorem mU (l : List GFire) : lz l = l.map c_GFire := rfl
theorem yP (l : List GFire) : aD (lz l) = lz l := by
  induction l with
  | nil => rfl
  | cons x xs ih => simp only [lz, lz, List.map_cons, aD] at ih ⊢; rw [ih]; simp [c_GFire, c_GFire, bh, fz, j4]
def c_LGOcc (x : List GOcc) : List A := [.tree (df x)]
def lA (l : List (List GOcc)) : Vm.Rows := l.map c_LGOcc
theorem mS (l : List (List GOcc)) : lA l = l.map c_LGOcc := rfl
theorem tb (l : List (List GOcc)) : aD (lA l) = lA l := by
  induction l with
  | nil => rfl
  | cons x xs ih => simp only [lA, lA, List.map_cons, aD] at ih ⊢; rw [ih]; simp [c_LGOcc, c_LGOcc, bh, fz, kE]
def c_GOccO (x : GOcc) : List A := [iA x.From, iA x.To, .inl 1 (eP x.Ids)]
def pT (l : List GOcc) : Vm.Rows := l.map c_GOccO
theorem qA (l : List GOcc) : pT l = l.map c_GOccO := rfl
theorem yt (l : List GOcc) : aD (pT l) = df l := by
  induction l with
  | nil => rfl
  | cons x xs ih => simp only [pT, df, List.map_cons, aD] at ih ⊢; rw [ih]; simp [c_GOccO, c_GOcc, bh, fz, j4]
def c_LInt (x : List Int) : List A := [.tree (eP x)]
def m9 (l : List (List Int)) : Vm.Rows := l.map c_LInt
theorem nZ (l : List (List Int)) : m9 l = l.map c_LInt := rfl
theorem uQ (l : List (List Int)) : aD (m9 l) = m9 l := by
  induction l with
  | nil => rfl
  | cons x xs ih => simp only [m9, m9, List.map_cons, aD] at ih ⊢; rw [ih]; simp [c_LInt, c_LInt, bh, fz, j4]
@[simp] theorem r_Iu8_fzm (l : List Int) : aD (l.map c_Iu8) = l.map c_Iu8 := by rw [← oW, AS, oW]
@[simp] theorem r_GEx_fzm (l : List GEx) : aD (l.map c_GEx) = l.map c_GEx := by rw [← kx, rl, kx]
@[simp] theorem r_GRule_fzm (l : List GRule) : aD (l.map c_GRule) = l.map c_GRule := by rw [← mG, nO, mG]
@[simp] theorem r_Str_fzm (l : List ByteArray) : aD (l.map c_Str) = l.map c_Str := by rw [← pH, A3, pH]
@[simp] theorem r_Int_fzm (l : List Int) : aD (l.map c_Int) = l.map c_Int := by rw [← oQ, j4, oQ]
@[simp] theorem r_GExO_fzm (l : List GEx) : aD (l.map jD) = l.map c_GEx := by rw [← lj, pD, kx]
@[simp] theorem r_GOcc_fzm (l : List GOcc) : aD (l.map c_GOcc) = l.map c_GOcc := by rw [← d8, kE, d8]
@[simp] theorem r_GNode_fzm (l : List GNode) : aD (l.map c_GNode) = l.map c_GNode := by rw [← mI, lp, mI]
@[simp] theorem B0 (l : List GGraph) : aD (l.map c_GGraphS) = l.map c_GGraph := by rw [← ov, vF, jH]
@[simp] theorem CA (l : List GGraph) : aD (l.map c_GGraph) = l.map c_GGraph := by rw [← jH, wZ, jH]
@[simp] theorem r_GEv_fzm (l : List GEv) : aD (l.map c_GEv) = l.map c_GEv := by rw [← pC, oj, pC]
@[simp] theorem r_GFire_fzm (l : List GFire) : aD (l.map c_GFire) = l.map c_GFire := by rw [← mU, yP, mU]
@[simp] theorem r_LGOcc_fzm (l : List (List GOcc)) : aD (l.map c_LGOcc) = l.map c_LGOcc := by rw [← mS, tb, mS]
@[simp] theorem r_GOccO_fzm (l : List GOcc) : aD (l.map c_GOccO) = l.map c_GOcc := by rw [← qA, yt, d8]
@[simp] theorem r_LInt_fzm (l : List (List Int)) : aD (l.map c_LInt) = l.map c_LInt := by rw [← nZ, uQ, nZ]
attribute [simp] c_Iu8 oW c_GEx kx c_GRule mG c_Str pH c_Int oQ jD lj c_GOcc d8 c_GNode mI c_GGraphS ov c_GGraph jH c_GEv pC c_GFire mU c_LGOcc mS c_GOccO qA c_LInt nZ
/-- the encoders, fk names -/
inductive EQ : (List Int → Vm.Rows) → (List GEx → Vm.Rows) → (List GRule → Vm.Rows) → (List ByteArray → Vm.Rows) → (List Int → Vm.Rows) → (List GEx → Vm.Rows) → (List GOcc → Vm.Rows) → (List GNode → Vm.Rows) → (List GGraph → Vm.Rows) → (List GGraph → Vm.Rows) → (List GEv → Vm.Rows) → (List GFire → Vm.Rows) → (List (List GOcc) → Vm.Rows) → (List GOcc → Vm.Rows) → (List (List Int) → Vm.Rows) → Prop where
  | mk : EQ jy iH lu qa eP iw df jm mu ix pW lz lA pT m9
end Go.Proofs.YtlbnmldopjadoaaGreat
