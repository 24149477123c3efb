/- The library functions that stand on the shelf, and insertion. -/
import Derived.Test.YtdhlbpgjcfdofaaGreatN
import Derived.Test.YtdhlbpgjcfdofaaGreatX0
import Derived.Test.YtdhlbpgjcfdofaaGreatI1
import Derived.Test.YtdhlbpgjcfdofaaGreatProg
import Derived.KernelRfl
namespace Go.Proofs.YtdhlbpgjcfdofaaGreat
open Go Go.Vm Go.Proofs
def shSort_ren : Go.Shelf.Ren := ⟨fun | 189 => 100 | 125 => 143 | 257 => 142 | 128 => 173 | 129 => 174 | 294 => 164 | 295 => 165 | 296 => 166 | 297 => 167 | 298 => 168 | 299 => 169 | 216 => 170 | 300 => 171 | 301 => 172 | 328 => 195 | 329 => 196 | 330 => 197 | 331 => 198 | 332 => 199 | 215 => 184 | 343 => 214 | n => n, fun | 28 => 26 | 3 => 3 | 46 => 136 | 0 => 0 | 51 => 164 | 53 => 166 | 4 => 4 | 183 => 157 | 182 => 156 | 131 => 131 | 5 => 5 | 9 => 9 | 218 => 179 | 222 => 183 | 228 => 196 | 229 => 92 | n => n, fun | n => n⟩
theorem shSort : Lays.n189 Tryz.prog shSort_ren where
  mixed := by kernel_rfl
  f125 := Tryz.func143.trans (congrArg some (by kernel_rfl))
  f128 := Tryz.func173.trans (congrArg some (by kernel_rfl))
  f129 := Tryz.func174.trans (congrArg some (by kernel_rfl))
  f189 := Tryz.func100.trans (congrArg some (by kernel_rfl))
  f215 := Tryz.func184.trans (congrArg some (by kernel_rfl))
  f216 := Tryz.func170.trans (congrArg some (by kernel_rfl))
  f257 := Tryz.func142.trans (congrArg some (by kernel_rfl))
  f294 := Tryz.func164.trans (congrArg some (by kernel_rfl))
  f295 := Tryz.func165.trans (congrArg some (by kernel_rfl))
  f296 := Tryz.func166.trans (congrArg some (by kernel_rfl))
  f297 := Tryz.func167.trans (congrArg some (by kernel_rfl))
  f298 := Tryz.func168.trans (congrArg some (by kernel_rfl))
  f299 := Tryz.func169.trans (congrArg some (by kernel_rfl))
  f300 := Tryz.func171.trans (congrArg some (by kernel_rfl))
  f301 := Tryz.func172.trans (congrArg some (by kernel_rfl))
  f328 := Tryz.func195.trans (congrArg some (by kernel_rfl))
  f329 := Tryz.func196.trans (congrArg some (by kernel_rfl))
  f330 := Tryz.func197.trans (congrArg some (by kernel_rfl))
  f331 := Tryz.func198.trans (congrArg some (by kernel_rfl))
  f332 := Tryz.func199.trans (congrArg some (by kernel_rfl))
  f343 := Tryz.func214.trans (congrArg some (by kernel_rfl))
  t0 := Tryz.underlying0
  a0 := Tryz.isAgg0
  z0 := Tryz.sizeOf0
  v0 := Tryz.zeroValue0
  t3 := Tryz.underlying3
  a3 := Tryz.isAgg3
  z3 := Tryz.sizeOf3
  v3 := Tryz.zeroValue3
  t4 := Tryz.underlying4
  a4 := Tryz.isAgg4
  z4 := Tryz.sizeOf4
  v4 := Tryz.zeroValue4
  t5 := Tryz.underlying5
  a5 := Tryz.isAgg5
  z5 := Tryz.sizeOf5
  v5 := Tryz.zeroValue5
  t9 := Tryz.underlying9
  a9 := Tryz.isAgg9
  z9 := Tryz.sizeOf9
  v9 := Tryz.zeroValue9
  t28 := Tryz.underlying26
  a28 := Tryz.isAgg26
  z28 := Tryz.sizeOf26
  v28 := Tryz.zeroValue26
  t46 := Tryz.underlying136
  a46 := Tryz.isAgg136
  z46 := Tryz.sizeOf136
  v46 := Tryz.zeroValue136
  t51 := Tryz.underlying164
  a51 := Tryz.isAgg164
  z51 := Tryz.sizeOf164
  v51 := Tryz.zeroValue164
  t53 := Tryz.underlying166
  a53 := Tryz.isAgg166
  z53 := Tryz.sizeOf166
  v53 := Tryz.zeroValue166
  t131 := Tryz.underlying131
  a131 := Tryz.isAgg131
  z131 := Tryz.sizeOf131
  v131 := Tryz.zeroValue131
  t182 := Tryz.underlying156
  a182 := Tryz.isAgg156
  z182 := Tryz.sizeOf156
  v182 := Tryz.zeroValue156
  t183 := Tryz.underlying157
  a183 := Tryz.isAgg157
  z183 := Tryz.sizeOf157
  v183 := Tryz.zeroValue157
  t218 := Tryz.underlying179
  a218 := Tryz.isAgg179
  z218 := Tryz.sizeOf179
  v218 := Tryz.zeroValue179
  t222 := Tryz.underlying183
  a222 := Tryz.isAgg183
  z222 := Tryz.sizeOf183
  v222 := Tryz.zeroValue183
  t228 := Tryz.underlying196
  a228 := Tryz.isAgg196
  z228 := Tryz.sizeOf196
  v228 := Tryz.zeroValue196
  t229 := Tryz.underlying92
  a229 := Tryz.isAgg92
  z229 := Tryz.sizeOf92
  v229 := Tryz.zeroValue92
def shCompact_ren : Go.Shelf.Ren := ⟨fun | 20 => 101 | n => n, fun | 22 => 26 | 3 => 3 | 4 => 4 | 0 => 0 | n => n, fun | n => n⟩
theorem shCompact : Lays2.n20 Tryz.prog shCompact_ren where
  mixed := by kernel_rfl
  f20 := Tryz.func101.trans (congrArg some (by kernel_rfl))
  t0 := Tryz.underlying0
  a0 := Tryz.isAgg0
  z0 := Tryz.sizeOf0
  v0 := Tryz.zeroValue0
  t3 := Tryz.underlying3
  a3 := Tryz.isAgg3
  z3 := Tryz.sizeOf3
  v3 := Tryz.zeroValue3
  t4 := Tryz.underlying4
  a4 := Tryz.isAgg4
  z4 := Tryz.sizeOf4
  v4 := Tryz.zeroValue4
  t22 := Tryz.underlying26
  a22 := Tryz.isAgg26
  z22 := Tryz.sizeOf26
  v22 := Tryz.zeroValue26
  i3 := by kernel_rfl
def shGrow_ren : Go.Shelf.Ren := ⟨fun | 4 => 220 | n => n, fun | 22 => 26 | 25 => 3 | 3 => 3 | 4 => 4 | 9 => 9 | 20 => 20 | 0 => 0 | n => n, fun | n => n⟩
theorem shGrow : Lays8.n4 Tryz.prog shGrow_ren where
  mixed := by kernel_rfl
  f4 := ⟨"slices.Grow[[]int,int]", by decide, Tryz.func220.trans (congrArg some (by kernel_rfl))⟩
  t0 := Tryz.underlying0
  a0 := Tryz.isAgg0
  z0 := Tryz.sizeOf0
  v0 := Tryz.zeroValue0
  t3 := Tryz.underlying3
  a3 := Tryz.isAgg3
  z3 := Tryz.sizeOf3
  v3 := Tryz.zeroValue3
  t4 := Tryz.underlying4
  a4 := Tryz.isAgg4
  z4 := Tryz.sizeOf4
  v4 := Tryz.zeroValue4
  t9 := Tryz.underlying9
  a9 := Tryz.isAgg9
  z9 := Tryz.sizeOf9
  v9 := Tryz.zeroValue9
  t20 := Tryz.underlying20
  a20 := Tryz.isAgg20
  z20 := Tryz.sizeOf20
  v20 := Tryz.zeroValue20
  t22 := Tryz.underlying26
  a22 := Tryz.isAgg26
  z22 := Tryz.sizeOf26
  v22 := Tryz.zeroValue26
theorem x_slices_Insert {p0 : List GOcc} {p1 : Int} {p2 : List GOcc} {r : List GOcc} (hh : slices_Insert.f p0 p1 p2 = some r) : FunW Tryz.prog 140 [oA 3 (r_GOcc p0), iA p1, oA 3 (r_GOcc p2)] [hA, hA, hA] (oA 3 (r_GOcc r)) := by
  unfold slices_Insert.f at hh
  obtain ⟨h1, hh⟩ := req_some hh
  obtain ⟨h2, hh⟩ := req_some hh
  obtain ⟨h3, hh⟩ := req_some hh
  obtain ⟨h4, hh⟩ := req_some hh
  cases hh
  obtain ⟨i, rfl⟩ : ∃ i : Nat, p1 = i := ⟨p1.toNat, by omega⟩
  have hf : ∀ l : List GOcc, (r_GOcc l).flatten.all plain = true ∧ (r_GOcc l).flatten.all ocell = true := fun l => by
    rw [r_GOcc_map]
    induction l with
    | nil => simp
    | cons x l ih => simp only [List.map_cons, List.flatten_cons, List.all_append, ih.1, ih.2, Bool.and_true]; simp [c_GOcc, plain, ocell]
  have := insertW (rows := r_GOcc p0) (rows2 := r_GOcc p2) (i := i) (r_GOcc_wide p0) (hf p0).1 (hf p0).2 (r_GOcc_wide p2) (hf p2).1 (hf p2).2 (by rw [r_GOcc_map, List.length_map]; exact h3) (by rw [r_GOcc_map, List.length_map]; omega) (by rw [r_GOcc_map, List.length_map]; exact h4)
  simpa only [r_GOcc_map, List.map_append, List.map_take, List.map_drop, Int.toNat_natCast] using this
theorem x_slices_Sort {p0 : List Int} {r : List Int} (hh : slices_Sort.f p0 = some r) : FunW Tryz.prog 100 [oA 1 (r_Int p0)] [oA 1 (r_Int r)] (.tup []) := by
  unfold slices_Sort.f at hh
  obtain ⟨h, hh⟩ := req_some hh
  cases hh
  exact sortW shSort h
theorem x_slices_Compact {p0 : List Int} {r : List Int} (hh : slices_Compact.f p0 = some r) : FunW Tryz.prog 101 [oA 1 (r_Int p0)] [hA] (tA (r_Int r)) := by
  unfold slices_Compact.f at hh
  obtain ⟨h, hh⟩ := req_some hh
  cases hh
  exact compactW shCompact h
theorem x_slices_Grow {p0 : List Int} {p1 : Int} {r : List Int} (hh : slices_Grow.f p0 p1 = some r) : FunW Tryz.prog 220 [.lit (.slice none 0 0), iA p1] [hA, hA] (oA 1 (r_Int r)) := by
  unfold slices_Grow.f at hh
  obtain ⟨h, hh⟩ := req_some hh
  obtain ⟨h1, hh⟩ := req_some hh
  obtain ⟨h2, hh⟩ := req_some hh
  cases hh
  exact growW shGrow (show Tryz.prog.info? 3 = some Tryz.t3 by kernel_rfl) rfl rfl (by kernel_rfl) rfl h1 h2
end Go.Proofs.YtdhlbpgjcfdofaaGreat
