/- How data stands for memory. -/
import Derived.Test.YtdhlbpgjcfdofaaGreatL
namespace Go.Proofs.YtdhlbpgjcfdofaaGreat
open Go Go.Vm
set_option linter.unusedSimpArgs false
mutual
def c_GEx : GEx → List A
  | ⟨a0, a1, a2, a3⟩ => [iA a0, iA a1, iA a2, .tree (r_GEx a3)]
def r_GEx : List GEx → Vm.Rows
  | [] => []
  | x :: xs => c_GEx x :: r_GEx xs
end
theorem r_GEx_map : ∀ l : List GEx, r_GEx l = l.map c_GEx
  | [] => rfl
  | x :: xs => by simp only [r_GEx, List.map_cons, r_GEx_map xs]
theorem r_GEx_get {l : List GEx} {i : Nat} {e : GEx} (h : l[i]? = some e) : (r_GEx l)[i]? = some (c_GEx e) := by rw [r_GEx_map]; simp [h]
theorem r_GEx_wide (l : List GEx) : ∀ r ∈ r_GEx l, r.length = 4 := by rw [r_GEx_map]; intro r hr; obtain ⟨e, _, rfl⟩ := List.mem_map.1 hr; cases e; simp [c_GEx]
theorem r_GEx_ones (l : List GEx) : ∀ r ∈ r_GEx l, ∀ c ∈ r, ocell c = true := by rw [r_GEx_map]; intro r hr; obtain ⟨e, _, rfl⟩ := List.mem_map.1 hr; cases e; simp [c_GEx, ocell]
theorem r_GEx_flat (l : List GEx) : ∀ r ∈ r_GEx l, ∀ c ∈ r, plain c = true := by rw [r_GEx_map]; intro r hr; obtain ⟨e, _, rfl⟩ := List.mem_map.1 hr; cases e; simp [c_GEx, plain]
theorem r_GEx_fz : ∀ l : List GEx, fzRows (r_GEx l) = r_GEx l
  | [] => by simp [r_GEx, fzRows]
  | ⟨a0, a1, a2, a3⟩ :: xs => by simp [r_GEx, c_GEx, fzRows, fzCells, fz, r_GEx_fz xs]
def c_GEv (x : GEv) : List A := [iA x.Sym, iA x.At, iA x.Val]
def r_GEv (l : List GEv) : Vm.Rows := l.map c_GEv
theorem r_GEv_map (l : List GEv) : r_GEv l = l.map c_GEv := rfl
theorem r_GEv_get {l : List GEv} {i : Nat} {e : GEv} (h : l[i]? = some e) : (r_GEv l)[i]? = some (c_GEv e) := by rw [r_GEv_map]; simp [h]
theorem r_GEv_wide (l : List GEv) : ∀ r ∈ r_GEv l, r.length = 3 := by rw [r_GEv_map]; intro r hr; obtain ⟨e, _, rfl⟩ := List.mem_map.1 hr; simp [c_GEv]
theorem r_GEv_ones (l : List GEv) : ∀ r ∈ r_GEv l, ∀ c ∈ r, ocell c = true := by rw [r_GEv_map]; intro r hr; obtain ⟨e, _, rfl⟩ := List.mem_map.1 hr; simp [c_GEv, ocell]
theorem r_GEv_flat (l : List GEv) : ∀ r ∈ r_GEv l, ∀ c ∈ r, plain c = true := by rw [r_GEv_map]; intro r hr; obtain ⟨e, _, rfl⟩ := List.mem_map.1 hr; simp [c_GEv, plain]
theorem r_GEv_fz (l : List GEv) : fzRows (r_GEv l) = r_GEv l := by
  induction l with
  | nil => rfl
  | cons x xs ih => simp only [r_GEv, r_GEv, List.map_cons, fzRows] at ih ⊢; rw [ih]; simp [c_GEv, c_GEv, fzCells, fz]
theorem r_GEv_ownd (l : List GEv) : owndRows (r_GEv l) = true := by
  induction l with
  | nil => rfl
  | cons x xs ih => simp only [r_GEv, List.map_cons, owndRows] at ih ⊢; rw [ih]; simp [c_GEv, owndL, ownd]
def c_Int (x : Int) : List A := [iA x]
def r_Int (l : List Int) : Vm.Rows := l.map c_Int
theorem r_Int_map (l : List Int) : r_Int l = l.map c_Int := rfl
theorem r_Int_get {l : List Int} {i : Nat} {e : Int} (h : l[i]? = some e) : (r_Int l)[i]? = some (c_Int e) := by rw [r_Int_map]; simp [h]
theorem r_Int_wide (l : List Int) : ∀ r ∈ r_Int l, r.length = 1 := by rw [r_Int_map]; intro r hr; obtain ⟨e, _, rfl⟩ := List.mem_map.1 hr; simp [c_Int]
theorem r_Int_ones (l : List Int) : ∀ r ∈ r_Int l, ∀ c ∈ r, ocell c = true := by rw [r_Int_map]; intro r hr; obtain ⟨e, _, rfl⟩ := List.mem_map.1 hr; simp [c_Int, ocell]
theorem r_Int_flat (l : List Int) : ∀ r ∈ r_Int l, ∀ c ∈ r, plain c = true := by rw [r_Int_map]; intro r hr; obtain ⟨e, _, rfl⟩ := List.mem_map.1 hr; simp [c_Int, plain]
theorem r_Int_fz (l : List Int) : fzRows (r_Int l) = r_Int l := by
  induction l with
  | nil => rfl
  | cons x xs ih => simp only [r_Int, r_Int, List.map_cons, fzRows] at ih ⊢; rw [ih]; simp [c_Int, c_Int, fzCells, fz]
theorem r_Int_ownd (l : List Int) : owndRows (r_Int l) = true := by
  induction l with
  | nil => rfl
  | cons x xs ih => simp only [r_Int, List.map_cons, owndRows] at ih ⊢; rw [ih]; simp [c_Int, owndL, ownd]
def c_GOcc (x : GOcc) : List A := [iA x.From, iA x.To, .tree (r_Int x.Ids)]
def r_GOcc (l : List GOcc) : Vm.Rows := l.map c_GOcc
theorem r_GOcc_map (l : List GOcc) : r_GOcc l = l.map c_GOcc := rfl
theorem r_GOcc_get {l : List GOcc} {i : Nat} {e : GOcc} (h : l[i]? = some e) : (r_GOcc l)[i]? = some (c_GOcc e) := by rw [r_GOcc_map]; simp [h]
theorem r_GOcc_wide (l : List GOcc) : ∀ r ∈ r_GOcc l, r.length = 3 := by rw [r_GOcc_map]; intro r hr; obtain ⟨e, _, rfl⟩ := List.mem_map.1 hr; simp [c_GOcc]
theorem r_GOcc_ones (l : List GOcc) : ∀ r ∈ r_GOcc l, ∀ c ∈ r, ocell c = true := by rw [r_GOcc_map]; intro r hr; obtain ⟨e, _, rfl⟩ := List.mem_map.1 hr; simp [c_GOcc, ocell]
theorem r_GOcc_flat (l : List GOcc) : ∀ r ∈ r_GOcc l, ∀ c ∈ r, plain c = true := by rw [r_GOcc_map]; intro r hr; obtain ⟨e, _, rfl⟩ := List.mem_map.1 hr; simp [c_GOcc, plain]
theorem r_GOcc_fz (l : List GOcc) : fzRows (r_GOcc l) = r_GOcc l := by
  induction l with
  | nil => rfl
  | cons x xs ih => simp only [r_GOcc, r_GOcc, List.map_cons, fzRows] at ih ⊢; rw [ih]; simp [c_GOcc, c_GOcc, fzCells, fz, r_Int_fz]
def c_GOccO (x : GOcc) : List A := [iA x.From, iA x.To, .inl 1 (r_Int x.Ids)]
def r_GOccO (l : List GOcc) : Vm.Rows := l.map c_GOccO
theorem r_GOccO_map (l : List GOcc) : r_GOccO l = l.map c_GOccO := rfl
theorem r_GOccO_get {l : List GOcc} {i : Nat} {e : GOcc} (h : l[i]? = some e) : (r_GOccO l)[i]? = some (c_GOccO e) := by rw [r_GOccO_map]; simp [h]
theorem r_GOccO_wide (l : List GOcc) : ∀ r ∈ r_GOccO l, r.length = 3 := by rw [r_GOccO_map]; intro r hr; obtain ⟨e, _, rfl⟩ := List.mem_map.1 hr; simp [c_GOccO]
theorem r_GOccO_ones (l : List GOcc) : ∀ r ∈ r_GOccO l, ∀ c ∈ r, ocell c = true := by rw [r_GOccO_map]; intro r hr; obtain ⟨e, _, rfl⟩ := List.mem_map.1 hr; simp [c_GOccO, ocell]
theorem r_GOccO_fz (l : List GOcc) : fzRows (r_GOccO l) = r_GOcc l := by
  induction l with
  | nil => rfl
  | cons x xs ih => simp only [r_GOccO, r_GOcc, List.map_cons, fzRows] at ih ⊢; rw [ih]; simp [c_GOccO, c_GOcc, fzCells, fz, r_Int_fz]
theorem r_GOccO_ownd (l : List GOcc) : owndRows (r_GOccO l) = true := by
  induction l with
  | nil => rfl
  | cons x xs ih => simp only [r_GOccO, List.map_cons, owndRows] at ih ⊢; rw [ih]; simp [c_GOccO, owndL, ownd, r_Int_ownd]
def c_LGOcc (x : List GOcc) : List A := [.tree (r_GOcc x)]
def r_LGOcc (l : List (List GOcc)) : Vm.Rows := l.map c_LGOcc
theorem r_LGOcc_map (l : List (List GOcc)) : r_LGOcc l = l.map c_LGOcc := rfl
theorem r_LGOcc_get {l : List (List GOcc)} {i : Nat} {e : List GOcc} (h : l[i]? = some e) : (r_LGOcc l)[i]? = some (c_LGOcc e) := by rw [r_LGOcc_map]; simp [h]
theorem r_LGOcc_wide (l : List (List GOcc)) : ∀ r ∈ r_LGOcc l, r.length = 1 := by rw [r_LGOcc_map]; intro r hr; obtain ⟨e, _, rfl⟩ := List.mem_map.1 hr; simp [c_LGOcc]
theorem r_LGOcc_ones (l : List (List GOcc)) : ∀ r ∈ r_LGOcc l, ∀ c ∈ r, ocell c = true := by rw [r_LGOcc_map]; intro r hr; obtain ⟨e, _, rfl⟩ := List.mem_map.1 hr; simp [c_LGOcc, ocell]
theorem r_LGOcc_flat (l : List (List GOcc)) : ∀ r ∈ r_LGOcc l, ∀ c ∈ r, plain c = true := by rw [r_LGOcc_map]; intro r hr; obtain ⟨e, _, rfl⟩ := List.mem_map.1 hr; simp [c_LGOcc, plain]
theorem r_LGOcc_fz (l : List (List GOcc)) : fzRows (r_LGOcc l) = r_LGOcc l := by
  induction l with
  | nil => rfl
  | cons x xs ih => simp only [r_LGOcc, r_LGOcc, List.map_cons, fzRows] at ih ⊢; rw [ih]; simp [c_LGOcc, c_LGOcc, fzCells, fz, r_GOcc_fz]
def c_LGOccO (x : List GOcc) : List A := [.inl 3 (r_GOccO x)]
def r_LGOccO (l : List (List GOcc)) : Vm.Rows := l.map c_LGOccO
theorem r_LGOccO_map (l : List (List GOcc)) : r_LGOccO l = l.map c_LGOccO := rfl
theorem r_LGOccO_get {l : List (List GOcc)} {i : Nat} {e : List GOcc} (h : l[i]? = some e) : (r_LGOccO l)[i]? = some (c_LGOccO e) := by rw [r_LGOccO_map]; simp [h]
theorem r_LGOccO_wide (l : List (List GOcc)) : ∀ r ∈ r_LGOccO l, r.length = 1 := by rw [r_LGOccO_map]; intro r hr; obtain ⟨e, _, rfl⟩ := List.mem_map.1 hr; simp [c_LGOccO]
theorem r_LGOccO_ones (l : List (List GOcc)) : ∀ r ∈ r_LGOccO l, ∀ c ∈ r, ocell c = true := by rw [r_LGOccO_map]; intro r hr; obtain ⟨e, _, rfl⟩ := List.mem_map.1 hr; simp [c_LGOccO, ocell]
theorem r_LGOccO_fz (l : List (List GOcc)) : fzRows (r_LGOccO l) = r_LGOcc l := by
  induction l with
  | nil => rfl
  | cons x xs ih => simp only [r_LGOccO, r_LGOcc, List.map_cons, fzRows] at ih ⊢; rw [ih]; simp [c_LGOccO, c_LGOcc, fzCells, fz, r_GOccO_fz]
theorem r_LGOccO_ownd (l : List (List GOcc)) : owndRows (r_LGOccO l) = true := by
  induction l with
  | nil => rfl
  | cons x xs ih => simp only [r_LGOccO, List.map_cons, owndRows] at ih ⊢; rw [ih]; simp [c_LGOccO, owndL, ownd, r_GOccO_ownd]
def c_Bool (x : Bool) : List A := [.lit (.bool x)]
def r_Bool (l : List Bool) : Vm.Rows := l.map c_Bool
theorem r_Bool_map (l : List Bool) : r_Bool l = l.map c_Bool := rfl
theorem r_Bool_get {l : List Bool} {i : Nat} {e : Bool} (h : l[i]? = some e) : (r_Bool l)[i]? = some (c_Bool e) := by rw [r_Bool_map]; simp [h]
theorem r_Bool_wide (l : List Bool) : ∀ r ∈ r_Bool l, r.length = 1 := by rw [r_Bool_map]; intro r hr; obtain ⟨e, _, rfl⟩ := List.mem_map.1 hr; simp [c_Bool]
theorem r_Bool_ones (l : List Bool) : ∀ r ∈ r_Bool l, ∀ c ∈ r, ocell c = true := by rw [r_Bool_map]; intro r hr; obtain ⟨e, _, rfl⟩ := List.mem_map.1 hr; simp [c_Bool, ocell]
theorem r_Bool_flat (l : List Bool) : ∀ r ∈ r_Bool l, ∀ c ∈ r, plain c = true := by rw [r_Bool_map]; intro r hr; obtain ⟨e, _, rfl⟩ := List.mem_map.1 hr; simp [c_Bool, plain]
theorem r_Bool_fz (l : List Bool) : fzRows (r_Bool l) = r_Bool l := by
  induction l with
  | nil => rfl
  | cons x xs ih => simp only [r_Bool, r_Bool, List.map_cons, fzRows] at ih ⊢; rw [ih]; simp [c_Bool, c_Bool, fzCells, fz]
theorem r_Bool_ownd (l : List Bool) : owndRows (r_Bool l) = true := by
  induction l with
  | nil => rfl
  | cons x xs ih => simp only [r_Bool, List.map_cons, owndRows] at ih ⊢; rw [ih]; simp [c_Bool, owndL, ownd]
def c_Iu8 (x : Int) : List A := [.lit (.int .u8 x)]
def r_Iu8 (l : List Int) : Vm.Rows := l.map c_Iu8
theorem r_Iu8_map (l : List Int) : r_Iu8 l = l.map c_Iu8 := rfl
theorem r_Iu8_get {l : List Int} {i : Nat} {e : Int} (h : l[i]? = some e) : (r_Iu8 l)[i]? = some (c_Iu8 e) := by rw [r_Iu8_map]; simp [h]
theorem r_Iu8_wide (l : List Int) : ∀ r ∈ r_Iu8 l, r.length = 1 := by rw [r_Iu8_map]; intro r hr; obtain ⟨e, _, rfl⟩ := List.mem_map.1 hr; simp [c_Iu8]
theorem r_Iu8_ones (l : List Int) : ∀ r ∈ r_Iu8 l, ∀ c ∈ r, ocell c = true := by rw [r_Iu8_map]; intro r hr; obtain ⟨e, _, rfl⟩ := List.mem_map.1 hr; simp [c_Iu8, ocell]
theorem r_Iu8_flat (l : List Int) : ∀ r ∈ r_Iu8 l, ∀ c ∈ r, plain c = true := by rw [r_Iu8_map]; intro r hr; obtain ⟨e, _, rfl⟩ := List.mem_map.1 hr; simp [c_Iu8, plain]
theorem r_Iu8_fz (l : List Int) : fzRows (r_Iu8 l) = r_Iu8 l := by
  induction l with
  | nil => rfl
  | cons x xs ih => simp only [r_Iu8, r_Iu8, List.map_cons, fzRows] at ih ⊢; rw [ih]; simp [c_Iu8, c_Iu8, fzCells, fz]
theorem r_Iu8_ownd (l : List Int) : owndRows (r_Iu8 l) = true := by
  induction l with
  | nil => rfl
  | cons x xs ih => simp only [r_Iu8, List.map_cons, owndRows] at ih ⊢; rw [ih]; simp [c_Iu8, owndL, ownd]
mutual
def c_GExO : GEx → List A
  | ⟨a0, a1, a2, a3⟩ => [iA a0, iA a1, iA a2, .inl 4 (r_GExO a3)]
def r_GExO : List GEx → Vm.Rows
  | [] => []
  | x :: xs => c_GExO x :: r_GExO xs
end
theorem r_GExO_map : ∀ l : List GEx, r_GExO l = l.map c_GExO
  | [] => rfl
  | x :: xs => by simp only [r_GExO, List.map_cons, r_GExO_map xs]
theorem r_GExO_get {l : List GEx} {i : Nat} {e : GEx} (h : l[i]? = some e) : (r_GExO l)[i]? = some (c_GExO e) := by rw [r_GExO_map]; simp [h]
theorem r_GExO_wide (l : List GEx) : ∀ r ∈ r_GExO l, r.length = 4 := by rw [r_GExO_map]; intro r hr; obtain ⟨e, _, rfl⟩ := List.mem_map.1 hr; cases e; simp [c_GExO]
theorem r_GExO_ones (l : List GEx) : ∀ r ∈ r_GExO l, ∀ c ∈ r, ocell c = true := by rw [r_GExO_map]; intro r hr; obtain ⟨e, _, rfl⟩ := List.mem_map.1 hr; cases e; simp [c_GExO, ocell]
mutual
theorem c_GExO_fz : ∀ e : GEx, fzCells (c_GExO e) = c_GEx e
  | ⟨a0, a1, a2, a3⟩ => by simp [c_GExO, c_GEx, fzCells, fz, r_GExO_fz]
theorem r_GExO_fz : ∀ l : List GEx, fzRows (r_GExO l) = r_GEx l
  | [] => by simp [r_GExO, r_GEx, fzRows]
  | x :: xs => by simp [r_GExO, r_GEx, fzRows, c_GExO_fz x, r_GExO_fz xs]
end
mutual
theorem c_GExO_ownd : ∀ e : GEx, owndL (c_GExO e) = true
  | ⟨a0, a1, a2, a3⟩ => by simp [c_GExO, owndL, ownd, r_GExO_ownd]
theorem r_GExO_ownd : ∀ l : List GEx, owndRows (r_GExO l) = true
  | [] => by simp [r_GExO, owndRows]
  | x :: xs => by simp [r_GExO, owndRows, c_GExO_ownd x, r_GExO_ownd xs]
end
def c_LInt (x : List Int) : List A := [.tree (r_Int x)]
def r_LInt (l : List (List Int)) : Vm.Rows := l.map c_LInt
theorem r_LInt_map (l : List (List Int)) : r_LInt l = l.map c_LInt := rfl
theorem r_LInt_get {l : List (List Int)} {i : Nat} {e : List Int} (h : l[i]? = some e) : (r_LInt l)[i]? = some (c_LInt e) := by rw [r_LInt_map]; simp [h]
theorem r_LInt_wide (l : List (List Int)) : ∀ r ∈ r_LInt l, r.length = 1 := by rw [r_LInt_map]; intro r hr; obtain ⟨e, _, rfl⟩ := List.mem_map.1 hr; simp [c_LInt]
theorem r_LInt_ones (l : List (List Int)) : ∀ r ∈ r_LInt l, ∀ c ∈ r, ocell c = true := by rw [r_LInt_map]; intro r hr; obtain ⟨e, _, rfl⟩ := List.mem_map.1 hr; simp [c_LInt, ocell]
theorem r_LInt_flat (l : List (List Int)) : ∀ r ∈ r_LInt l, ∀ c ∈ r, plain c = true := by rw [r_LInt_map]; intro r hr; obtain ⟨e, _, rfl⟩ := List.mem_map.1 hr; simp [c_LInt, plain]
theorem r_LInt_fz (l : List (List Int)) : fzRows (r_LInt l) = r_LInt l := by
  induction l with
  | nil => rfl
  | cons x xs ih => simp only [r_LInt, r_LInt, List.map_cons, fzRows] at ih ⊢; rw [ih]; simp [c_LInt, c_LInt, fzCells, fz, r_Int_fz]
@[simp] theorem r_GEx_fzm (l : List GEx) : fzRows (l.map c_GEx) = l.map c_GEx := by rw [← r_GEx_map, r_GEx_fz, r_GEx_map]
@[simp] theorem r_GEv_fzm (l : List GEv) : fzRows (l.map c_GEv) = l.map c_GEv := by rw [← r_GEv_map, r_GEv_fz, r_GEv_map]
@[simp] theorem r_Int_fzm (l : List Int) : fzRows (l.map c_Int) = l.map c_Int := by rw [← r_Int_map, r_Int_fz, r_Int_map]
@[simp] theorem r_GOcc_fzm (l : List GOcc) : fzRows (l.map c_GOcc) = l.map c_GOcc := by rw [← r_GOcc_map, r_GOcc_fz, r_GOcc_map]
@[simp] theorem r_GOccO_fzm (l : List GOcc) : fzRows (l.map c_GOccO) = l.map c_GOcc := by rw [← r_GOccO_map, r_GOccO_fz, r_GOcc_map]
@[simp] theorem r_LGOcc_fzm (l : List (List GOcc)) : fzRows (l.map c_LGOcc) = l.map c_LGOcc := by rw [← r_LGOcc_map, r_LGOcc_fz, r_LGOcc_map]
@[simp] theorem r_LGOccO_fzm (l : List (List GOcc)) : fzRows (l.map c_LGOccO) = l.map c_LGOcc := by rw [← r_LGOccO_map, r_LGOccO_fz, r_LGOcc_map]
@[simp] theorem r_Bool_fzm (l : List Bool) : fzRows (l.map c_Bool) = l.map c_Bool := by rw [← r_Bool_map, r_Bool_fz, r_Bool_map]
@[simp] theorem r_Iu8_fzm (l : List Int) : fzRows (l.map c_Iu8) = l.map c_Iu8 := by rw [← r_Iu8_map, r_Iu8_fz, r_Iu8_map]
@[simp] theorem r_GExO_fzm (l : List GEx) : fzRows (l.map c_GExO) = l.map c_GEx := by rw [← r_GExO_map, r_GExO_fz, r_GEx_map]
@[simp] theorem r_LInt_fzm (l : List (List Int)) : fzRows (l.map c_LInt) = l.map c_LInt := by rw [← r_LInt_map, r_LInt_fz, r_LInt_map]
attribute [simp] c_GEx r_GEx_map c_GEv r_GEv_map c_Int r_Int_map c_GOcc r_GOcc_map c_GOccO r_GOccO_map c_LGOcc r_LGOcc_map c_LGOccO r_LGOccO_map c_Bool r_Bool_map c_Iu8 r_Iu8_map c_GExO r_GExO_map c_LInt r_LInt_map
/-- the encoders, behind names -/
inductive EQ : (List GEx → Vm.Rows) → (List GEv → Vm.Rows) → (List Int → Vm.Rows) → (List GOcc → Vm.Rows) → (List GOcc → Vm.Rows) → (List (List GOcc) → Vm.Rows) → (List (List GOcc) → Vm.Rows) → (List Bool → Vm.Rows) → (List Int → Vm.Rows) → (List GEx → Vm.Rows) → (List (List Int) → Vm.Rows) → Prop where
  | mk : EQ r_GEx r_GEv r_Int r_GOcc r_GOccO r_LGOcc r_LGOccO r_Bool r_Iu8 r_GExO r_LInt
end Go.Proofs.YtdhlbpgjcfdofaaGreat
