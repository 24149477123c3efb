/- How data stands for memory. -/
import Derived.Test.YtgbgabkdbfeibaaL
namespace Go.Proofs.Ytgbgabkdbfeibaa
open Go Go.Vm
def c_GEv (x : GEv) : List A := [.lit (.int .i64 x.Sym), .lit (.int .i64 x.At), .lit (.int .i64 x.Val)]
def r_GEv (l : List GEv) : Vm.Rows := l.map c_GEv
theorem r_GEv_map (l : List GEv) : r_GEv l = l.map c_GEv := rfl
theorem r_GEv_get {l : List GEv} {i : Nat} {e : GEv} (h : l[i]? = some e) : (r_GEv l)[i]? = some (c_GEv e) := by rw [r_GEv_map]; simp [h]
theorem r_GEv_wide (l : List GEv) : ∀ r ∈ r_GEv l, r.length = 3 := by rw [r_GEv_map]; intro r hr; obtain ⟨e, _, rfl⟩ := List.mem_map.1 hr; simp [c_GEv]
theorem r_GEv_ones (l : List GEv) : ∀ r ∈ r_GEv l, ∀ c ∈ r, ocell c = true := by rw [r_GEv_map]; intro r hr; obtain ⟨e, _, rfl⟩ := List.mem_map.1 hr; simp [c_GEv, ocell]
theorem r_GEv_flat (l : List GEv) : ∀ r ∈ r_GEv l, ∀ c ∈ r, plain c = true := by rw [r_GEv_map]; intro r hr; obtain ⟨e, _, rfl⟩ := List.mem_map.1 hr; simp [c_GEv, plain]
theorem r_GEv_fz (l : List GEv) : fzRows (r_GEv l) = r_GEv l := by
  induction l with
  | nil => rfl
  | cons x xs ih => simp only [r_GEv, r_GEv, List.map_cons, fzRows] at ih ⊢; rw [ih]; simp [c_GEv, c_GEv, fzCells, fz]
theorem r_GEv_ownd (l : List GEv) : owndRows (r_GEv l) = true := by
  induction l with
  | nil => rfl
  | cons x xs ih => simp only [r_GEv, List.map_cons, owndRows] at ih ⊢; rw [ih]; simp [c_GEv, owndL, ownd]
def c_Int (x : Int) : List A := [.lit (.int .i64 x)]
def r_Int (l : List Int) : Vm.Rows := l.map c_Int
theorem r_Int_map (l : List Int) : r_Int l = l.map c_Int := rfl
theorem r_Int_get {l : List Int} {i : Nat} {e : Int} (h : l[i]? = some e) : (r_Int l)[i]? = some (c_Int e) := by rw [r_Int_map]; simp [h]
theorem r_Int_wide (l : List Int) : ∀ r ∈ r_Int l, r.length = 1 := by rw [r_Int_map]; intro r hr; obtain ⟨e, _, rfl⟩ := List.mem_map.1 hr; simp [c_Int]
theorem r_Int_ones (l : List Int) : ∀ r ∈ r_Int l, ∀ c ∈ r, ocell c = true := by rw [r_Int_map]; intro r hr; obtain ⟨e, _, rfl⟩ := List.mem_map.1 hr; simp [c_Int, ocell]
theorem r_Int_flat (l : List Int) : ∀ r ∈ r_Int l, ∀ c ∈ r, plain c = true := by rw [r_Int_map]; intro r hr; obtain ⟨e, _, rfl⟩ := List.mem_map.1 hr; simp [c_Int, plain]
theorem r_Int_fz (l : List Int) : fzRows (r_Int l) = r_Int l := by
  induction l with
  | nil => rfl
  | cons x xs ih => simp only [r_Int, r_Int, List.map_cons, fzRows] at ih ⊢; rw [ih]; simp [c_Int, c_Int, fzCells, fz]
theorem r_Int_ownd (l : List Int) : owndRows (r_Int l) = true := by
  induction l with
  | nil => rfl
  | cons x xs ih => simp only [r_Int, List.map_cons, owndRows] at ih ⊢; rw [ih]; simp [c_Int, owndL, ownd]
mutual
def c_GEx : GEx → List A
  | ⟨a0, a1, a2, a3⟩ => [.lit (.int .i64 a0), .lit (.int .i64 a1), .lit (.int .i64 a2), .tree (r_GEx a3)]
def r_GEx : List GEx → Vm.Rows
  | [] => []
  | x :: xs => c_GEx x :: r_GEx xs
end
theorem r_GEx_map : ∀ l : List GEx, r_GEx l = l.map c_GEx
  | [] => rfl
  | x :: xs => by simp only [r_GEx, List.map_cons, r_GEx_map xs]
theorem r_GEx_get {l : List GEx} {i : Nat} {e : GEx} (h : l[i]? = some e) : (r_GEx l)[i]? = some (c_GEx e) := by rw [r_GEx_map]; simp [h]
theorem r_GEx_wide (l : List GEx) : ∀ r ∈ r_GEx l, r.length = 4 := by rw [r_GEx_map]; intro r hr; obtain ⟨e, _, rfl⟩ := List.mem_map.1 hr; cases e; simp [c_GEx]
theorem r_GEx_ones (l : List GEx) : ∀ r ∈ r_GEx l, ∀ c ∈ r, ocell c = true := by rw [r_GEx_map]; intro r hr; obtain ⟨e, _, rfl⟩ := List.mem_map.1 hr; cases e; simp [c_GEx, ocell]
theorem r_GEx_flat (l : List GEx) : ∀ r ∈ r_GEx l, ∀ c ∈ r, plain c = true := by rw [r_GEx_map]; intro r hr; obtain ⟨e, _, rfl⟩ := List.mem_map.1 hr; cases e; simp [c_GEx, plain]
theorem r_GEx_fz : ∀ l : List GEx, fzRows (r_GEx l) = r_GEx l
  | [] => by simp [r_GEx, fzRows]
  | ⟨a0, a1, a2, a3⟩ :: xs => by simp [r_GEx, c_GEx, fzRows, fzCells, fz, r_GEx_fz xs]
mutual
def c_GExO : GEx → List A
  | ⟨a0, a1, a2, a3⟩ => [.lit (.int .i64 a0), .lit (.int .i64 a1), .lit (.int .i64 a2), .inl 4 (r_GExO a3)]
def r_GExO : List GEx → Vm.Rows
  | [] => []
  | x :: xs => c_GExO x :: r_GExO xs
end
theorem r_GExO_map : ∀ l : List GEx, r_GExO l = l.map c_GExO
  | [] => rfl
  | x :: xs => by simp only [r_GExO, List.map_cons, r_GExO_map xs]
theorem r_GExO_get {l : List GEx} {i : Nat} {e : GEx} (h : l[i]? = some e) : (r_GExO l)[i]? = some (c_GExO e) := by rw [r_GExO_map]; simp [h]
theorem r_GExO_wide (l : List GEx) : ∀ r ∈ r_GExO l, r.length = 4 := by rw [r_GExO_map]; intro r hr; obtain ⟨e, _, rfl⟩ := List.mem_map.1 hr; cases e; simp [c_GExO]
theorem r_GExO_ones (l : List GEx) : ∀ r ∈ r_GExO l, ∀ c ∈ r, ocell c = true := by rw [r_GExO_map]; intro r hr; obtain ⟨e, _, rfl⟩ := List.mem_map.1 hr; cases e; simp [c_GExO, ocell]
mutual
theorem c_GExO_fz : ∀ e : GEx, fzCells (c_GExO e) = c_GEx e
  | ⟨a0, a1, a2, a3⟩ => by simp [c_GExO, c_GEx, fzCells, fz, r_GExO_fz]
theorem r_GExO_fz : ∀ l : List GEx, fzRows (r_GExO l) = r_GEx l
  | [] => by simp [r_GExO, r_GEx, fzRows]
  | x :: xs => by simp [r_GExO, r_GEx, fzRows, c_GExO_fz x, r_GExO_fz xs]
end
mutual
theorem c_GExO_ownd : ∀ e : GEx, owndL (c_GExO e) = true
  | ⟨a0, a1, a2, a3⟩ => by simp [c_GExO, owndL, ownd, r_GExO_ownd]
theorem r_GExO_ownd : ∀ l : List GEx, owndRows (r_GExO l) = true
  | [] => by simp [r_GExO, owndRows]
  | x :: xs => by simp [r_GExO, owndRows, c_GExO_ownd x, r_GExO_ownd xs]
end
@[simp] theorem r_GEv_fzm (l : List GEv) : fzRows (l.map c_GEv) = l.map c_GEv := by rw [← r_GEv_map, r_GEv_fz, r_GEv_map]
@[simp] theorem r_Int_fzm (l : List Int) : fzRows (l.map c_Int) = l.map c_Int := by rw [← r_Int_map, r_Int_fz, r_Int_map]
@[simp] theorem r_GEx_fzm (l : List GEx) : fzRows (l.map c_GEx) = l.map c_GEx := by rw [← r_GEx_map, r_GEx_fz, r_GEx_map]
@[simp] theorem r_GExO_fzm (l : List GEx) : fzRows (l.map c_GExO) = l.map c_GEx := by rw [← r_GExO_map, r_GExO_fz, r_GEx_map]
attribute [simp] c_GEv r_GEv_map c_Int r_Int_map c_GEx r_GEx_map c_GExO r_GExO_map
end Go.Proofs.Ytgbgabkdbfeibaa
