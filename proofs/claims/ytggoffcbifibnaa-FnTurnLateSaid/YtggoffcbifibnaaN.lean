/- How data stands for memory. -/
import Derived.Test.YtggoffcbifibnaaL
namespace Go.Proofs.Ytggoffcbifibnaa
open Go Go.Vm
def c_Iu8 (x : Int) : List A := [.lit (.int .u8 x)]
def r_Iu8 (l : List Int) : Vm.Rows := l.map c_Iu8
theorem r_Iu8_map (l : List Int) : r_Iu8 l = l.map c_Iu8 := rfl
theorem r_Iu8_get {l : List Int} {i : Nat} {e : Int} (h : l[i]? = some e) : (r_Iu8 l)[i]? = some (c_Iu8 e) := by rw [r_Iu8_map]; simp [h]
theorem r_Iu8_wide (l : List Int) : ∀ r ∈ r_Iu8 l, r.length = 1 := by rw [r_Iu8_map]; intro r hr; obtain ⟨e, _, rfl⟩ := List.mem_map.1 hr; simp [c_Iu8]
theorem r_Iu8_ones (l : List Int) : ∀ r ∈ r_Iu8 l, ∀ c ∈ r, ocell c = true := by rw [r_Iu8_map]; intro r hr; obtain ⟨e, _, rfl⟩ := List.mem_map.1 hr; simp [c_Iu8, ocell]
theorem r_Iu8_flat (l : List Int) : ∀ r ∈ r_Iu8 l, ∀ c ∈ r, plain c = true := by rw [r_Iu8_map]; intro r hr; obtain ⟨e, _, rfl⟩ := List.mem_map.1 hr; simp [c_Iu8, plain]
theorem r_Iu8_fz (l : List Int) : fzRows (r_Iu8 l) = r_Iu8 l := by
  induction l with
  | nil => rfl
  | cons x xs ih => simp only [r_Iu8, r_Iu8, List.map_cons, fzRows] at ih ⊢; rw [ih]; simp [c_Iu8, c_Iu8, fzCells, fz]
theorem r_Iu8_ownd (l : List Int) : owndRows (r_Iu8 l) = true := by
  induction l with
  | nil => rfl
  | cons x xs ih => simp only [r_Iu8, List.map_cons, owndRows] at ih ⊢; rw [ih]; simp [c_Iu8, owndL, ownd]
def c_GEv (x : GEv) : List A := [iA x.Sym, iA x.At, iA x.Val]
def r_GEv (l : List GEv) : Vm.Rows := l.map c_GEv
theorem r_GEv_map (l : List GEv) : r_GEv l = l.map c_GEv := rfl
theorem r_GEv_get {l : List GEv} {i : Nat} {e : GEv} (h : l[i]? = some e) : (r_GEv l)[i]? = some (c_GEv e) := by rw [r_GEv_map]; simp [h]
theorem r_GEv_wide (l : List GEv) : ∀ r ∈ r_GEv l, r.length = 3 := by rw [r_GEv_map]; intro r hr; obtain ⟨e, _, rfl⟩ := List.mem_map.1 hr; simp [c_GEv]
theorem r_GEv_ones (l : List GEv) : ∀ r ∈ r_GEv l, ∀ c ∈ r, ocell c = true := by rw [r_GEv_map]; intro r hr; obtain ⟨e, _, rfl⟩ := List.mem_map.1 hr; simp [c_GEv, ocell]
theorem r_GEv_flat (l : List GEv) : ∀ r ∈ r_GEv l, ∀ c ∈ r, plain c = true := by rw [r_GEv_map]; intro r hr; obtain ⟨e, _, rfl⟩ := List.mem_map.1 hr; simp [c_GEv, plain]
theorem r_GEv_fz (l : List GEv) : fzRows (r_GEv l) = r_GEv l := by
  induction l with
  | nil => rfl
  | cons x xs ih => simp only [r_GEv, r_GEv, List.map_cons, fzRows] at ih ⊢; rw [ih]; simp [c_GEv, c_GEv, fzCells, fz]
theorem r_GEv_ownd (l : List GEv) : owndRows (r_GEv l) = true := by
  induction l with
  | nil => rfl
  | cons x xs ih => simp only [r_GEv, List.map_cons, owndRows] at ih ⊢; rw [ih]; simp [c_GEv, owndL, ownd]
def c_Int (x : Int) : List A := [iA x]
def r_Int (l : List Int) : Vm.Rows := l.map c_Int
theorem r_Int_map (l : List Int) : r_Int l = l.map c_Int := rfl
theorem r_Int_get {l : List Int} {i : Nat} {e : Int} (h : l[i]? = some e) : (r_Int l)[i]? = some (c_Int e) := by rw [r_Int_map]; simp [h]
theorem r_Int_wide (l : List Int) : ∀ r ∈ r_Int l, r.length = 1 := by rw [r_Int_map]; intro r hr; obtain ⟨e, _, rfl⟩ := List.mem_map.1 hr; simp [c_Int]
theorem r_Int_ones (l : List Int) : ∀ r ∈ r_Int l, ∀ c ∈ r, ocell c = true := by rw [r_Int_map]; intro r hr; obtain ⟨e, _, rfl⟩ := List.mem_map.1 hr; simp [c_Int, ocell]
theorem r_Int_flat (l : List Int) : ∀ r ∈ r_Int l, ∀ c ∈ r, plain c = true := by rw [r_Int_map]; intro r hr; obtain ⟨e, _, rfl⟩ := List.mem_map.1 hr; simp [c_Int, plain]
theorem r_Int_fz (l : List Int) : fzRows (r_Int l) = r_Int l := by
  induction l with
  | nil => rfl
  | cons x xs ih => simp only [r_Int, r_Int, List.map_cons, fzRows] at ih ⊢; rw [ih]; simp [c_Int, c_Int, fzCells, fz]
theorem r_Int_ownd (l : List Int) : owndRows (r_Int l) = true := by
  induction l with
  | nil => rfl
  | cons x xs ih => simp only [r_Int, List.map_cons, owndRows] at ih ⊢; rw [ih]; simp [c_Int, owndL, ownd]
def c_GOcc (x : GOcc) : List A := [iA x.From, iA x.To, .tree (r_Int x.Ids)]
def r_GOcc (l : List GOcc) : Vm.Rows := l.map c_GOcc
theorem r_GOcc_map (l : List GOcc) : r_GOcc l = l.map c_GOcc := rfl
theorem r_GOcc_get {l : List GOcc} {i : Nat} {e : GOcc} (h : l[i]? = some e) : (r_GOcc l)[i]? = some (c_GOcc e) := by rw [r_GOcc_map]; simp [h]
theorem r_GOcc_wide (l : List GOcc) : ∀ r ∈ r_GOcc l, r.length = 3 := by rw [r_GOcc_map]; intro r hr; obtain ⟨e, _, rfl⟩ := List.mem_map.1 hr; simp [c_GOcc]
theorem r_GOcc_ones (l : List GOcc) : ∀ r ∈ r_GOcc l, ∀ c ∈ r, ocell c = true := by rw [r_GOcc_map]; intro r hr; obtain ⟨e, _, rfl⟩ := List.mem_map.1 hr; simp [c_GOcc, ocell]
theorem r_GOcc_flat (l : List GOcc) : ∀ r ∈ r_GOcc l, ∀ c ∈ r, plain c = true := by rw [r_GOcc_map]; intro r hr; obtain ⟨e, _, rfl⟩ := List.mem_map.1 hr; simp [c_GOcc, plain]
theorem r_GOcc_fz (l : List GOcc) : fzRows (r_GOcc l) = r_GOcc l := by
  induction l with
  | nil => rfl
  | cons x xs ih => simp only [r_GOcc, r_GOcc, List.map_cons, fzRows] at ih ⊢; rw [ih]; simp [c_GOcc, c_GOcc, fzCells, fz, r_Int_fz]
def c_GOccO (x : GOcc) : List A := [iA x.From, iA x.To, .inl 1 (r_Int x.Ids)]
def r_GOccO (l : List GOcc) : Vm.Rows := l.map c_GOccO
theorem r_GOccO_map (l : List GOcc) : r_GOccO l = l.map c_GOccO := rfl
theorem r_GOccO_get {l : List GOcc} {i : Nat} {e : GOcc} (h : l[i]? = some e) : (r_GOccO l)[i]? = some (c_GOccO e) := by rw [r_GOccO_map]; simp [h]
theorem r_GOccO_wide (l : List GOcc) : ∀ r ∈ r_GOccO l, r.length = 3 := by rw [r_GOccO_map]; intro r hr; obtain ⟨e, _, rfl⟩ := List.mem_map.1 hr; simp [c_GOccO]
theorem r_GOccO_ones (l : List GOcc) : ∀ r ∈ r_GOccO l, ∀ c ∈ r, ocell c = true := by rw [r_GOccO_map]; intro r hr; obtain ⟨e, _, rfl⟩ := List.mem_map.1 hr; simp [c_GOccO, ocell]
theorem r_GOccO_fz (l : List GOcc) : fzRows (r_GOccO l) = r_GOcc l := by
  induction l with
  | nil => rfl
  | cons x xs ih => simp only [r_GOccO, r_GOcc, List.map_cons, fzRows] at ih ⊢; rw [ih]; simp [c_GOccO, c_GOcc, fzCells, fz, r_Int_fz]
theorem r_GOccO_ownd (l : List GOcc) : owndRows (r_GOccO l) = true := by
  induction l with
  | nil => rfl
  | cons x xs ih => simp only [r_GOccO, List.map_cons, owndRows] at ih ⊢; rw [ih]; simp [c_GOccO, owndL, ownd, r_Int_ownd]
@[simp] theorem r_Iu8_fzm (l : List Int) : fzRows (l.map c_Iu8) = l.map c_Iu8 := by rw [← r_Iu8_map, r_Iu8_fz, r_Iu8_map]
@[simp] theorem r_GEv_fzm (l : List GEv) : fzRows (l.map c_GEv) = l.map c_GEv := by rw [← r_GEv_map, r_GEv_fz, r_GEv_map]
@[simp] theorem r_Int_fzm (l : List Int) : fzRows (l.map c_Int) = l.map c_Int := by rw [← r_Int_map, r_Int_fz, r_Int_map]
@[simp] theorem r_GOcc_fzm (l : List GOcc) : fzRows (l.map c_GOcc) = l.map c_GOcc := by rw [← r_GOcc_map, r_GOcc_fz, r_GOcc_map]
@[simp] theorem r_GOccO_fzm (l : List GOcc) : fzRows (l.map c_GOccO) = l.map c_GOcc := by rw [← r_GOccO_map, r_GOccO_fz, r_GOcc_map]
attribute [simp] c_Iu8 r_Iu8_map c_GEv r_GEv_map c_Int r_Int_map c_GOcc r_GOcc_map c_GOccO r_GOccO_map
/-- the encoders, behind names -/
inductive EQ : (List Int → Vm.Rows) → (List GEv → Vm.Rows) → (List Int → Vm.Rows) → (List GOcc → Vm.Rows) → (List GOcc → Vm.Rows) → Prop where
  | mk : EQ r_Iu8 r_GEv r_Int r_GOcc r_GOccO
end Go.Proofs.Ytggoffcbifibnaa
