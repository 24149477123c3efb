/- The functions of this program over plain data. -/
import Derived.Test.YtgbgabkdbfeibaaVb
namespace Go.Proofs.Ytgbgabkdbfeibaa
open Go Go.Vm
set_option linter.unusedVariables false
structure GEv where
  Sym : Int
  At : Int
  Val : Int
structure GEx where
  Kind : Int
  Sym : Int
  N : Int
  Kids : List GEx
def laws_szEvS.f (p0 : List GEv) (p1 : Int) : Option Int := (if (IntKind.wrap .i64 (p1 - (p0.length : Int))) < 0 then (some (-1)) else (some (IntKind.wrap .i64 (p1 - (p0.length : Int)))))
def laws_toEv.f (p0 : GEv) : Option GEv := (some p0)
def laws_toEvS.l0 (k : Nat) (p0 : List GEv) : Nat → (List GEv) → Int → Option (List GEv)
  | 0, _, _ => none
  | n + 1, s16, s17 => (if s17 < (p0.length : Int) then (req ((0 : Int) ≤ s17) ((p0[s17.toNat]?).bind fun e34 => ((laws_toEv.f e34).bind fun x37 => (req ((0 : Int) ≤ s17) (req (s17 < (s16.length : Nat)) ((s16[s17.toNat]?).bind fun e41 => (laws_toEvS.l0 k p0 n (s16.set s17.toNat x37) (IntKind.wrap .i64 (s17 + 1))))))))) else (some s16))
def laws_toEvS.f (k : Nat) (p0 : List GEv) : Option (List GEv) := (req ((0 : Int) ≤ (p0.length : Int)) (req ((p0.length : Int) ≤ (p0.length : Int)) (req (p0.length * 24 ≤ 140737488355328) ((laws_toEvS.l0 k p0 k (List.replicate p0.length ((⟨0, 0, 0⟩ : GEv))) 0).bind fun x30 => (some x30)))))
def spec_EvOk.f (p0 : GEv) : Option Bool := (if p0.Sym < 0 then (some false) else (if p0.Sym < 5 then (if p0.At < 1 then (some false) else (if 1000 < p0.At then (some false) else (if p0.Val < 0 then (some false) else (some (!(decide (100 < p0.Val))))))) else (some false)))
def spec_EvsOk.l0 (k : Nat) (p0 : List GEv) : Nat → Int → Option (Except Bool Unit)
  | 0, _ => none
  | n + 1, s23 => (if s23 < (p0.length : Int) then (req ((0 : Int) ≤ s23) ((p0[s23.toNat]?).bind fun e47 => ((spec_EvOk.f e47).bind fun x50 => (if x50 = true then (if 0 < s23 then (req ((0 : Int) ≤ s23) ((p0[s23.toNat]?).bind fun e57 => (req ((0 : Int) ≤ (IntKind.wrap .i64 (s23 - 1))) ((p0[(IntKind.wrap .i64 (s23 - 1)).toNat]?).bind fun e60 => (if e60.At < e57.At then (spec_EvsOk.l0 k p0 n (IntKind.wrap .i64 (s23 + 1))) else (some (.error false))))))) else (spec_EvsOk.l0 k p0 n (IntKind.wrap .i64 (s23 + 1)))) else (some (.error false)))))) else (some (.ok ())))
def spec_EvsOk.f (k : Nat) (p0 : List GEv) : Option Bool := (if 24 < (p0.length : Int) then (some false) else ((spec_EvsOk.l0 k p0 k 0).bind fun o => match o with | .ok _ => (some true) | .error r => some r))
def spec_l6End.f (p0 : List GEv) : Option Int := (if (p0.length : Int) = 0 then (some 0) else (req ((0 : Int) ≤ (IntKind.wrap .i64 ((p0.length : Int) - 1))) ((p0[(IntKind.wrap .i64 ((p0.length : Int) - 1)).toNat]?).bind fun e4 => (some e4.At))))
def spec_TurnLate.l0 (k : Nat) (p0 : List GEv) (p1 : Int) : Nat → (List GEv) → Int → Option (List GEv)
  | 0, _, _ => none
  | n + 1, s21, s22 => (if s22 < (p0.length : Int) then (req ((0 : Int) ≤ s22) ((p0[s22.toNat]?).bind fun e33 => (req ((s21.length + 1) * 24 ≤ 140737488355328) (spec_TurnLate.l0 k p0 p1 n (s21 ++ [((⟨e33.Sym, (IntKind.wrap .i64 (e33.At + p1)), e33.Val⟩ : GEv))]) (IntKind.wrap .i64 (s22 + 1)))))) else (some s21))
def spec_TurnLate.f (k : Nat) (p0 : List GEv) (p1 : Int) : Option (List GEv) := ((spec_EvsOk.f k p0).bind fun x2 => (if x2 = true then (if p1 < 0 then (some ([] : List GEv)) else (if 1000 < p1 then (some ([] : List GEv)) else ((spec_l6End.f p0).bind fun x11 => (if 1000 < (IntKind.wrap .i64 (x11 + p1)) then (some ([] : List GEv)) else ((spec_TurnLate.l0 k p0 p1 k ([] : List GEv) 0).bind fun x29 => (some x29)))))) else (some ([] : List GEv))))
def impl_in.f (p0 : Int) (p1 : Int) (p2 : Int) : Option Bool := (if p0 < p1 then (some false) else (some (!(decide (p2 < p0)))))
def impl_isSym.f (p0 : Int) : Option Bool := ((impl_in.f p0 0 4).bind fun x2 => (some x2))
def impl_EvOk.f (p0 : GEv) : Option Bool := ((impl_isSym.f p0.Sym).bind fun x2 => (if x2 = true then ((impl_in.f p0.At 1 1000).bind fun x7 => (if x7 = true then ((impl_in.f p0.Val 0 100).bind fun x12 => (some x12)) else (some false))) else (some false)))
def impl_EvsOk.l0 (k : Nat) (p0 : List GEv) : Nat → Int → Option (Except Bool Unit)
  | 0, _ => none
  | n + 1, s18 => (if s18 < (p0.length : Int) then (req ((0 : Int) ≤ s18) ((p0[s18.toNat]?).bind fun e39 => ((impl_EvOk.f e39).bind fun x42 => (if x42 = true then (if 0 < s18 then (req ((0 : Int) ≤ (IntKind.wrap .i64 (s18 - 1))) ((p0[(IntKind.wrap .i64 (s18 - 1)).toNat]?).bind fun e49 => (if e49.At < e39.At then (impl_EvsOk.l0 k p0 n (IntKind.wrap .i64 (s18 + 1))) else (some (.error false))))) else (impl_EvsOk.l0 k p0 n (IntKind.wrap .i64 (s18 + 1)))) else (some (.error false)))))) else (some (.ok ())))
def impl_EvsOk.f (k : Nat) (p0 : List GEv) : Option Bool := ((impl_EvsOk.l0 k p0 k 0).bind fun o => match o with | .ok _ => (some (!(decide (24 < (p0.length : Int))))) | .error r => some r)
def impl_now.f (p0 : List GEv) : Option Int := (if (p0.length : Int) = 0 then (some 0) else (req ((0 : Int) ≤ (IntKind.wrap .i64 ((p0.length : Int) - 1))) ((p0[(IntKind.wrap .i64 ((p0.length : Int) - 1)).toNat]?).bind fun e4 => (some e4.At))))
def impl_cloneEvs.f (p0 : List GEv) : Option (List GEv) := (req (p0.length * 24 ≤ 140737488355328) (some p0))
def impl_TurnLate.l0 (k : Nat) (p1 : Int) (x17 : List GEv) : Nat → (List GEv) → Int → Option (List GEv)
  | 0, _, _ => none
  | n + 1, s27, s28 => (if s28 < ((x17.length : Nat) : Int) then (req ((0 : Int) ≤ s28) (req (s28 < (s27.length : Nat)) ((s27[s28.toNat]?).bind fun e42 => (req ((0 : Int) ≤ s28) (req (s28 < (s27.length : Nat)) (impl_TurnLate.l0 k p1 x17 n (s27.set s28.toNat ((⟨e42.Sym, (IntKind.wrap .i64 (e42.At + p1)), e42.Val⟩ : GEv))) (IntKind.wrap .i64 (s28 + 1)))))))) else (some s27))
def impl_TurnLate.f (k : Nat) (p0 : List GEv) (p1 : Int) : Option (List GEv) := ((impl_EvsOk.f k p0).bind fun x2 => (if x2 = true then ((impl_in.f p1 0 1000).bind fun x7 => (if x7 = true then ((impl_now.f p0).bind fun x12 => (if 1000 < (IntKind.wrap .i64 (x12 + p1)) then (some []) else ((impl_cloneEvs.f p0).bind fun x17 => ((impl_TurnLate.l0 k p1 x17 k x17 0).bind fun x37 => (some x37))))) else (some []))) else (some [])))
def laws_eqEv.f (p0 : GEv) (p1 : GEv) : Option Bool := (if p0.Sym = p1.Sym then (if p0.At = p1.At then (if p0.Val = p1.Val then (some true) else (some false)) else (some false)) else (some false))
def laws_eqEvS.l0 (k : Nat) (p0 : List GEv) (p1 : List GEv) : Nat → Int → Option (Except Bool Unit)
  | 0, _ => none
  | n + 1, s16 => (if s16 < (p0.length : Int) then (req ((0 : Int) ≤ s16) ((p0[s16.toNat]?).bind fun e33 => (req ((0 : Int) ≤ s16) ((p1[s16.toNat]?).bind fun e36 => ((laws_eqEv.f e33 e36).bind fun x39 => (if x39 = true then (laws_eqEvS.l0 k p0 p1 n (IntKind.wrap .i64 (s16 + 1))) else (some (.error false)))))))) else (some (.ok ())))
def laws_eqEvS.f (k : Nat) (p0 : List GEv) (p1 : List GEv) : Option Bool := (if (p0.length : Int) = (p1.length : Int) then ((laws_eqEvS.l0 k p0 p1 k 0).bind fun o => match o with | .ok _ => (some true) | .error r => some r) else (some false))
def laws_markEvS.l0 (k : Nat) : Nat → (List GEv) → Int → Int → Option (Int × (List GEv))
  | 0, _, _, _ => none
  | n + 1, s11, s12, s13 => (if s13 < ((s11.length : Nat) : Int) then (req ((0 : Int) ≤ s13) (req (s13 < (s11.length : Nat)) ((s11[s13.toNat]?).bind fun e30 => (req ((0 : Int) ≤ s13) (req (s13 < (s11.length : Nat)) (req ((0 : Int) ≤ s13) (req (s13 < (s11.length : Nat)) (laws_markEvS.l0 k n (((s11.set s13.toNat ((⟨s12, e30.At, e30.Val⟩ : GEv))).set s13.toNat ((⟨s12, (IntKind.wrap .i64 (s12 + 1)), e30.Val⟩ : GEv))).set s13.toNat ((⟨s12, (IntKind.wrap .i64 (s12 + 1)), (IntKind.wrap .i64 ((IntKind.wrap .i64 (s12 + 1)) + 1))⟩ : GEv))) (IntKind.wrap .i64 ((IntKind.wrap .i64 ((IntKind.wrap .i64 (s12 + 1)) + 1)) + 1)) (IntKind.wrap .i64 (s13 + 1)))))))))) else (some (s12, s11)))
def laws_markEvS.f (k : Nat) (p0 : List GEv) (p1 : Int) : Option (Int × (List GEv)) := ((laws_markEvS.l0 k k p0 p1 0).bind fun ⟨x24, x25⟩ => (some (x24, x25)))
def laws_heldEvS.l0 (k : Nat) (p0 : List GEv) : Nat → Int → Int → Option (Except Int Int)
  | 0, _, _ => none
  | n + 1, s18, s19 => (if s19 < (p0.length : Int) then (req ((0 : Int) ≤ s19) ((p0[s19.toNat]?).bind fun e41 => (if e41.Sym = s18 then (req ((0 : Int) ≤ s19) ((p0[s19.toNat]?).bind fun e46 => (if e46.At = (IntKind.wrap .i64 (s18 + 1)) then (req ((0 : Int) ≤ s19) ((p0[s19.toNat]?).bind fun e51 => (if e51.Val = (IntKind.wrap .i64 ((IntKind.wrap .i64 (s18 + 1)) + 1)) then (laws_heldEvS.l0 k p0 n (IntKind.wrap .i64 ((IntKind.wrap .i64 ((IntKind.wrap .i64 (s18 + 1)) + 1)) + 1)) (IntKind.wrap .i64 (s19 + 1))) else (some (.error (-1)))))) else (some (.error (-1)))))) else (some (.error (-1)))))) else (some (.ok s18)))
def laws_heldEvS.f (k : Nat) (p0 : List GEv) (p1 : Int) : Option Int := ((laws_heldEvS.l0 k p0 k p1 0).bind fun o => match o with | .ok x37 => (some x37) | .error r => some r)
def laws_FnExactTurnLate.f (k : Nat) (p0 : List GEv) (p1 : Int) : Option Bool := ((laws_szEvS.f p0 1048576).bind fun x2 => (if x2 < 0 then (some true) else ((laws_toEvS.f k p0).bind fun x7 => ((spec_TurnLate.f k x7 p1).bind fun x10 => ((laws_toEvS.f k p0).bind fun x13 => ((impl_TurnLate.f k x13 p1).bind fun x16 => ((laws_eqEvS.f k x16 x10).bind fun x19 => (if x19 = true then ((laws_toEvS.f k p0).bind fun x24 => ((laws_eqEvS.f k x13 x24).bind fun x27 => (if x27 = true then ((laws_markEvS.f k x13 1).bind fun x32 => (req (x32.2.length = x13.length) (if x32.1 < 0 then (some false) else ((laws_eqEvS.f k x16 x10).bind fun x37 => (if x37 = true then ((laws_markEvS.f k x16 1).bind fun x42 => (req (x42.2.length = x16.length) ((laws_heldEvS.f k x42.2 1).bind fun x45 => (if x45 < 0 then (some false) else (if x45 = x42.1 then ((laws_toEvS.f k p0).bind fun x52 => ((impl_TurnLate.f k x52 p1).bind fun x55 => ((laws_eqEvS.f k x55 x10).bind fun x58 => (if x58 = true then ((laws_heldEvS.f k x42.2 1).bind fun x63 => (if x63 < 0 then (some false) else (if x63 = x42.1 then (some true) else (some false)))) else (some false))))) else (some false)))))) else (some false)))))) else (some false)))) else (some false)))))))))
def laws_toIntS.l0 (k : Nat) (p0 : List Int) : Nat → (List Int) → Int → Option (List Int)
  | 0, _, _ => none
  | n + 1, s13, s14 => (if s14 < (p0.length : Int) then (req ((0 : Int) ≤ s14) ((p0[s14.toNat]?).bind fun e28 => (req ((0 : Int) ≤ s14) (req (s14 < (s13.length : Nat)) ((s13[s14.toNat]?).bind fun e32 => (laws_toIntS.l0 k p0 n (s13.set s14.toNat e28) (IntKind.wrap .i64 (s14 + 1)))))))) else (some s13))
def laws_toIntS.f (k : Nat) (p0 : List Int) : Option (List Int) := (req ((0 : Int) ≤ (p0.length : Int)) (req ((p0.length : Int) ≤ (p0.length : Int)) (req (p0.length * 8 ≤ 140737488355328) ((laws_toIntS.l0 k p0 k (List.replicate p0.length 0) 0).bind fun x24 => (some x24)))))
def spec_TurnBy.l3 (k : Nat) (p0 : List Int) (s46 : Int) : Nat → Int → Option (Except Bool Unit)
  | 0, _ => none
  | n + 1, s112 => (if s112 < s46 then (req ((0 : Int) ≤ s112) ((p0[s112.toNat]?).bind fun e126 => (req ((0 : Int) ≤ s46) ((p0[s46.toNat]?).bind fun e129 => (if e126 = e129 then (some (.error false)) else (spec_TurnBy.l3 k p0 s46 n (IntKind.wrap .i64 (s112 + 1)))))))) else (some (.ok ())))
def spec_TurnBy.l2 (k : Nat) (p0 : List Int) : Nat → Int → Option (Except Bool Unit)
  | 0, _ => none
  | n + 1, s46 => (if s46 < (p0.length : Int) then (req ((0 : Int) ≤ s46) ((p0[s46.toNat]?).bind fun e93 => (if e93 < 0 then (some (.error false)) else (req ((0 : Int) ≤ s46) ((p0[s46.toNat]?).bind fun e98 => (if e98 < 5 then ((spec_TurnBy.l3 k p0 s46 k 0).bind fun o => match o with | .ok _ => (spec_TurnBy.l2 k p0 n (IntKind.wrap .i64 (s46 + 1))) | .error r => some (.error r)) else (some (.error false)))))))) else (some (.ok ())))
def spec_TurnBy.f (k : Nat) (p0 : List Int) : Option Bool := (if (p0.length : Int) = 5 then ((spec_TurnBy.l2 k p0 k 0).bind fun o => match o with | .ok _ => (some true) | .error r => some r) else (some false))
def spec_TurnEvs.l0 (k : Nat) (p0 : List GEv) (p1 : List Int) : Nat → (List GEv) → Int → Option (List GEv)
  | 0, _, _ => none
  | n + 1, s20, s21 => (if s21 < (p0.length : Int) then (req ((0 : Int) ≤ s21) ((p0[s21.toNat]?).bind fun e35 => (req ((0 : Int) ≤ e35.Sym) ((p1[e35.Sym.toNat]?).bind fun e38 => (req ((s20.length + 1) * 24 ≤ 140737488355328) (spec_TurnEvs.l0 k p0 p1 n (s20 ++ [((⟨e38, e35.At, e35.Val⟩ : GEv))]) (IntKind.wrap .i64 (s21 + 1)))))))) else (some s20))
def spec_TurnEvs.f (k : Nat) (p0 : List GEv) (p1 : List Int) : Option (List GEv) := ((spec_EvsOk.f k p0).bind fun x2 => (if x2 = true then ((spec_TurnBy.f k p1).bind fun x7 => (if x7 = true then ((spec_TurnEvs.l0 k p0 p1 k ([] : List GEv) 0).bind fun x31 => (some x31)) else (some ([] : List GEv)))) else (some ([] : List GEv))))
def slices_Index.l0 (k : Nat) (p0 : List Int) (p1 : Int) : Nat → Int → Option (Except Int Unit)
  | 0, _ => none
  | n + 1, s8 => (if s8 < (p0.length : Int) then (req ((0 : Int) ≤ s8) ((p0[s8.toNat]?).bind fun e19 => (if p1 = e19 then (some (.error s8)) else (slices_Index.l0 k p0 p1 n (IntKind.wrap .i64 (s8 + 1)))))) else (some (.ok ())))
def slices_Index.f (k : Nat) (p0 : List Int) (p1 : Int) : Option Int := ((slices_Index.l0 k p0 p1 k 0).bind fun o => match o with | .ok _ => (some (-1)) | .error r => some r)
def slices_Contains.f (k : Nat) (p0 : List Int) (p1 : Int) : Option Bool := ((slices_Index.f k p0 p1).bind fun x2 => (some (!(decide (x2 < 0)))))
def impl_TurnBy.l0 (k : Nat) (p0 : List Int) : Nat → Int → Option (Except Bool Unit)
  | 0, _ => none
  | n + 1, s19 => (if s19 < (p0.length : Int) then (req ((0 : Int) ≤ s19) ((p0[s19.toNat]?).bind fun e41 => ((impl_isSym.f e41).bind fun x44 => (if x44 = true then (req ((0 : Int) ≤ 0) (req (0 ≤ s19) (req (s19 ≤ (p0.length : Int)) ((slices_Contains.f k (p0.take s19.toNat) e41).bind fun x52 => (if x52 = true then (some (.error false)) else (impl_TurnBy.l0 k p0 n (IntKind.wrap .i64 (s19 + 1)))))))) else (some (.error false)))))) else (some (.ok ())))
def impl_TurnBy.f (k : Nat) (p0 : List Int) : Option Bool := ((impl_TurnBy.l0 k p0 k 0).bind fun o => match o with | .ok _ => (some ((p0.length : Int) == 5)) | .error r => some r)
def impl_TurnEvs.l0 (k : Nat) (p1 : List Int) (x12 : List GEv) : Nat → (List GEv) → Int → Option (List GEv)
  | 0, _, _ => none
  | n + 1, s25, s26 => (if s26 < ((x12.length : Nat) : Int) then (req ((0 : Int) ≤ s26) (req (s26 < (s25.length : Nat)) ((s25[s26.toNat]?).bind fun e43 => (req ((0 : Int) ≤ e43.Sym) ((p1[e43.Sym.toNat]?).bind fun e46 => (req ((0 : Int) ≤ s26) (req (s26 < (s25.length : Nat)) (impl_TurnEvs.l0 k p1 x12 n (s25.set s26.toNat ((⟨e46, e43.At, e43.Val⟩ : GEv))) (IntKind.wrap .i64 (s26 + 1)))))))))) else (some s25))
def impl_TurnEvs.f (k : Nat) (p0 : List GEv) (p1 : List Int) : Option (List GEv) := ((impl_EvsOk.f k p0).bind fun x2 => (if x2 = true then ((impl_TurnBy.f k p1).bind fun x7 => (if x7 = true then ((impl_cloneEvs.f p0).bind fun x12 => ((impl_TurnEvs.l0 k p1 x12 k x12 0).bind fun x38 => (some x38))) else (some []))) else (some [])))
def laws_eqIntS.l0 (k : Nat) (p0 : List Int) (p1 : List Int) : Nat → Int → Option (Except Bool Unit)
  | 0, _ => none
  | n + 1, s13 => (if s13 < (p0.length : Int) then (req ((0 : Int) ≤ s13) ((p0[s13.toNat]?).bind fun e27 => (req ((0 : Int) ≤ s13) ((p1[s13.toNat]?).bind fun e30 => (if e27 = e30 then (laws_eqIntS.l0 k p0 p1 n (IntKind.wrap .i64 (s13 + 1))) else (some (.error false))))))) else (some (.ok ())))
def laws_eqIntS.f (k : Nat) (p0 : List Int) (p1 : List Int) : Option Bool := (if (p0.length : Int) = (p1.length : Int) then ((laws_eqIntS.l0 k p0 p1 k 0).bind fun o => match o with | .ok _ => (some true) | .error r => some r) else (some false))
def laws_markIntS.l0 (k : Nat) : Nat → (List Int) → Int → Int → Option (Int × (List Int))
  | 0, _, _, _ => none
  | n + 1, s7, s8, s9 => (if s9 < ((s7.length : Nat) : Int) then (req ((0 : Int) ≤ s9) (req (s9 < (s7.length : Nat)) ((s7[s9.toNat]?).bind fun e22 => (laws_markIntS.l0 k n (s7.set s9.toNat s8) (IntKind.wrap .i64 (s8 + 1)) (IntKind.wrap .i64 (s9 + 1)))))) else (some (s8, s7)))
def laws_markIntS.f (k : Nat) (p0 : List Int) (p1 : Int) : Option (Int × (List Int)) := ((laws_markIntS.l0 k k p0 p1 0).bind fun ⟨x16, x17⟩ => (some (x16, x17)))
def laws_FnExactTurnEvs.f (k : Nat) (p0 : List GEv) (p1 : List Int) : Option Bool := (if 1048576 < (p1.length : Int) then (some true) else ((laws_szEvS.f p0 1048576).bind fun x4 => (if x4 < 0 then (some true) else ((laws_toEvS.f k p0).bind fun x9 => ((laws_toIntS.f k p1).bind fun x12 => ((spec_TurnEvs.f k x9 x12).bind fun x15 => ((laws_toEvS.f k p0).bind fun x18 => ((laws_toIntS.f k p1).bind fun x21 => ((impl_TurnEvs.f k x18 x21).bind fun x24 => ((laws_eqEvS.f k x24 x15).bind fun x27 => (if x27 = true then ((laws_toEvS.f k p0).bind fun x32 => ((laws_eqEvS.f k x18 x32).bind fun x35 => (if x35 = true then ((laws_toIntS.f k p1).bind fun x40 => ((laws_eqIntS.f k x21 x40).bind fun x43 => (if x43 = true then ((laws_markEvS.f k x18 1).bind fun x48 => (req (x48.2.length = x18.length) ((laws_markIntS.f k x21 x48.1).bind fun x51 => (req (x51.2.length = x21.length) (if x51.1 < 0 then (some false) else ((laws_eqEvS.f k x24 x15).bind fun x56 => (if x56 = true then ((laws_markEvS.f k x24 1).bind fun x61 => (req (x61.2.length = x24.length) ((laws_heldEvS.f k x61.2 1).bind fun x64 => (if x64 < 0 then (some false) else (if x64 = x61.1 then ((laws_toEvS.f k p0).bind fun x71 => ((laws_toIntS.f k p1).bind fun x74 => ((impl_TurnEvs.f k x71 x74).bind fun x77 => ((laws_eqEvS.f k x77 x15).bind fun x80 => (if x80 = true then ((laws_heldEvS.f k x61.2 1).bind fun x85 => (if x85 < 0 then (some false) else (if x85 = x61.1 then (some true) else (some false)))) else (some false)))))) else (some false)))))) else (some false)))))))) else (some false)))) else (some false)))) else (some false))))))))))))
def laws_szExS.l0 (k : Nat) (rec_laws_szEx : GEx → Int → Option Int) (p0 : List GEx) : Nat → Int → Int → Option (Except Int Int)
  | 0, _, _ => none
  | n + 1, s13, s14 => (if s14 < (p0.length : Int) then (req ((0 : Int) ≤ s14) ((p0[s14.toNat]?).bind fun e29 => ((rec_laws_szEx e29 s13).bind fun x32 => (if x32 < 0 then (some (.error (-1))) else (laws_szExS.l0 k rec_laws_szEx p0 n x32 (IntKind.wrap .i64 (s14 + 1))))))) else (some (.ok s13)))
mutual
def laws_szExS.f : Nat → (List GEx) → Int → Option Int
  | 0, _, _ => none
  | k + 1, p0, p1 => (if (IntKind.wrap .i64 (p1 - (p0.length : Int))) < 0 then (some (-1)) else ((laws_szExS.l0 k (laws_szEx.f k) p0 k (IntKind.wrap .i64 (p1 - (p0.length : Int))) 0).bind fun o => match o with | .ok x25 => (some x25) | .error r => some r))
def laws_szEx.f : Nat → GEx → Int → Option Int
  | 0, _, _ => none
  | k + 1, p0, p1 => ((laws_szExS.f k p0.Kids p1).bind fun x2 => (if x2 < 0 then (some (-1)) else (some x2)))
end
def laws_toExS.l0 (k : Nat) (rec_laws_toEx : GEx → Option GEx) (p0 : List GEx) : Nat → (List GEx) → Int → Option (List GEx)
  | 0, _, _ => none
  | n + 1, s16, s17 => (if s17 < (p0.length : Int) then (req ((0 : Int) ≤ s17) ((p0[s17.toNat]?).bind fun e34 => ((rec_laws_toEx e34).bind fun x37 => (req ((0 : Int) ≤ s17) (req (s17 < (s16.length : Nat)) ((s16[s17.toNat]?).bind fun e41 => (laws_toExS.l0 k rec_laws_toEx p0 n (s16.set s17.toNat x37) (IntKind.wrap .i64 (s17 + 1))))))))) else (some s16))
mutual
def laws_toExS.f : Nat → (List GEx) → Option (List GEx)
  | 0, _ => none
  | k + 1, p0 => (req ((0 : Int) ≤ (p0.length : Int)) (req ((p0.length : Int) ≤ (p0.length : Int)) (req (p0.length * 48 ≤ 140737488355328) ((laws_toExS.l0 k (laws_toEx.f k) p0 k (List.replicate p0.length ((⟨0, 0, 0, []⟩ : GEx))) 0).bind fun x30 => (some x30)))))
def laws_toEx.f : Nat → GEx → Option GEx
  | 0, _ => none
  | k + 1, p0 => ((laws_toExS.f k p0.Kids).bind fun x2 => (some ((⟨p0.Kind, p0.Sym, p0.N, x2⟩ : GEx))))
end
def spec_l2Kids.f (p0 : Int) : Option Int := (if p0 = 1 then (some 0) else (if p0 = 7 then (some 1) else (if p0 = 2 then (some 2) else (if p0 = 3 then (some 2) else (if p0 = 4 then (some 2) else (if p0 = 5 then (some 3) else (if p0 = 6 then (some 3) else (some (-1)))))))))
def spec_l2Form.l0 (k : Nat) (rec_spec_l2Form : GEx → Int → Option Bool) (p0 : GEx) (p1 : Int) : Nat → Int → Option (Except Bool Unit)
  | 0, _ => none
  | n + 1, s30 => (if s30 < (p0.Kids.length : Int) then (req ((0 : Int) ≤ s30) ((p0.Kids[s30.toNat]?).bind fun e44 => ((rec_spec_l2Form e44 (IntKind.wrap .i64 (p1 - 1))).bind fun x47 => (if x47 = true then (spec_l2Form.l0 k rec_spec_l2Form p0 p1 n (IntKind.wrap .i64 (s30 + 1))) else (some (.error false)))))) else (some (.ok ())))
def spec_l2Form.l1 (k : Nat) (rec_spec_l2Form : GEx → Int → Option Bool) (p0 : GEx) (p1 : Int) : Nat → Int → Option (Except Bool Unit)
  | 0, _ => none
  | n + 1, s63 => (if s63 < (p0.Kids.length : Int) then (req ((0 : Int) ≤ s63) ((p0.Kids[s63.toNat]?).bind fun e77 => ((rec_spec_l2Form e77 (IntKind.wrap .i64 (p1 - 1))).bind fun x80 => (if x80 = true then (spec_l2Form.l1 k rec_spec_l2Form p0 p1 n (IntKind.wrap .i64 (s63 + 1))) else (some (.error false)))))) else (some (.ok ())))
def spec_l2Form.l2 (k : Nat) (rec_spec_l2Form : GEx → Int → Option Bool) (p0 : GEx) (p1 : Int) : Nat → Int → Option (Except Bool Unit)
  | 0, _ => none
  | n + 1, s102 => (if s102 < (p0.Kids.length : Int) then (req ((0 : Int) ≤ s102) ((p0.Kids[s102.toNat]?).bind fun e116 => ((rec_spec_l2Form e116 (IntKind.wrap .i64 (p1 - 1))).bind fun x119 => (if x119 = true then (spec_l2Form.l2 k rec_spec_l2Form p0 p1 n (IntKind.wrap .i64 (s102 + 1))) else (some (.error false)))))) else (some (.ok ())))
def spec_l2Form.l3 (k : Nat) (rec_spec_l2Form : GEx → Int → Option Bool) (p0 : GEx) (p1 : Int) : Nat → Int → Option (Except Bool Unit)
  | 0, _ => none
  | n + 1, s135 => (if s135 < (p0.Kids.length : Int) then (req ((0 : Int) ≤ s135) ((p0.Kids[s135.toNat]?).bind fun e149 => ((rec_spec_l2Form e149 (IntKind.wrap .i64 (p1 - 1))).bind fun x152 => (if x152 = true then (spec_l2Form.l3 k rec_spec_l2Form p0 p1 n (IntKind.wrap .i64 (s135 + 1))) else (some (.error false)))))) else (some (.ok ())))
def spec_l2Form.f : Nat → GEx → Int → Option Bool
  | 0, _, _ => none
  | k + 1, p0, p1 => (if p1 < 1 then (some false) else ((spec_l2Kids.f p0.Kind).bind fun x4 => (if x4 = (p0.Kids.length : Int) then (if p0.Sym < 0 then (some false) else (if p0.Sym < 5 then (if p0.Kind = 1 then (if p0.Kind = 7 then (if p0.N < 1 then (some false) else (if 20 < p0.N then (some false) else ((spec_l2Form.l0 k (spec_l2Form.f k) p0 p1 k 0).bind fun o => match o with | .ok _ => (some true) | .error r => some r))) else (if p0.N = 0 then ((spec_l2Form.l1 k (spec_l2Form.f k) p0 p1 k 0).bind fun o => match o with | .ok _ => (some true) | .error r => some r) else (some false))) else (if p0.Sym = 0 then (if p0.Kind = 7 then (if p0.N < 1 then (some false) else (if 20 < p0.N then (some false) else ((spec_l2Form.l2 k (spec_l2Form.f k) p0 p1 k 0).bind fun o => match o with | .ok _ => (some true) | .error r => some r))) else (if p0.N = 0 then ((spec_l2Form.l3 k (spec_l2Form.f k) p0 p1 k 0).bind fun o => match o with | .ok _ => (some true) | .error r => some r) else (some false))) else (some false))) else (some false))) else (some false))))
def spec_l2Many.l0 (k : Nat) (rec_spec_l2Many : GEx → Int → Option Int) (p0 : GEx) (p1 : Int) : Nat → Int → Int → Option Int
  | 0, _, _ => none
  | n + 1, s11, s12 => (if s12 < (p0.Kids.length : Int) then (if 0 < p1 then (req ((0 : Int) ≤ s12) ((p0.Kids[s12.toNat]?).bind fun e29 => ((rec_spec_l2Many e29 (IntKind.wrap .i64 (p1 - 1))).bind fun x32 => (spec_l2Many.l0 k rec_spec_l2Many p0 p1 n (IntKind.wrap .i64 (s11 + x32)) (IntKind.wrap .i64 (s12 + 1)))))) else (some s11)) else (some s11))
def spec_l2Many.f : Nat → GEx → Int → Option Int
  | 0, _, _ => none
  | k + 1, p0, p1 => ((spec_l2Many.l0 k (spec_l2Many.f k) p0 p1 k 1 0).bind fun x23 => (some x23))
def spec_ExOk.f (k : Nat) (p0 : GEx) : Option Bool := ((spec_l2Form.f k p0 5).bind fun x2 => (if x2 = true then ((spec_l2Many.f k p0 5).bind fun x7 => (some (!(decide (12 < x7))))) else (some false)))
def spec_l12Ex.l0 (k : Nat) (rec_spec_l12Ex : GEx → (List Int) → Option GEx) (p0 : GEx) (p1 : List Int) : Nat → (List GEx) → Int → Option (List GEx)
  | 0, _, _ => none
  | n + 1, s15, s16 => (if s16 < (p0.Kids.length : Int) then (req ((0 : Int) ≤ s16) ((p0.Kids[s16.toNat]?).bind fun e30 => ((rec_spec_l12Ex e30 p1).bind fun x33 => (req ((s15.length + 1) * 48 ≤ 140737488355328) (spec_l12Ex.l0 k rec_spec_l12Ex p0 p1 n (s15 ++ [x33]) (IntKind.wrap .i64 (s16 + 1))))))) else (some s15))
def spec_l12Ex.l1 (k : Nat) (rec_spec_l12Ex : GEx → (List Int) → Option GEx) (p0 : GEx) (p1 : List Int) : Nat → (List GEx) → Int → Option (List GEx)
  | 0, _, _ => none
  | n + 1, s45, s46 => (if s46 < (p0.Kids.length : Int) then (req ((0 : Int) ≤ s46) ((p0.Kids[s46.toNat]?).bind fun e60 => ((rec_spec_l12Ex e60 p1).bind fun x63 => (req ((s45.length + 1) * 48 ≤ 140737488355328) (spec_l12Ex.l1 k rec_spec_l12Ex p0 p1 n (s45 ++ [x63]) (IntKind.wrap .i64 (s46 + 1))))))) else (some s45))
def spec_l12Ex.f : Nat → GEx → (List Int) → Option GEx
  | 0, _, _ => none
  | k + 1, p0, p1 => (if p0.Kind = 1 then (req ((0 : Int) ≤ p0.Sym) ((p1[p0.Sym.toNat]?).bind fun e4 => ((spec_l12Ex.l0 k (spec_l12Ex.f k) p0 p1 k [] 0).bind fun x26 => (some ((⟨p0.Kind, e4, p0.N, x26⟩ : GEx)))))) else ((spec_l12Ex.l1 k (spec_l12Ex.f k) p0 p1 k [] 0).bind fun x56 => (some ((⟨p0.Kind, p0.Sym, p0.N, x56⟩ : GEx)))))
def spec_TurnEx.f (k : Nat) (p0 : GEx) (p1 : List Int) : Option GEx := ((spec_ExOk.f k p0).bind fun x2 => (if x2 = true then ((spec_TurnBy.f k p1).bind fun x7 => (if x7 = true then ((spec_l12Ex.f k p0 p1).bind fun x12 => (some x12)) else (some ((⟨0, 0, 0, []⟩ : GEx))))) else (some ((⟨0, 0, 0, []⟩ : GEx)))))
def impl_Ex_size.l0 (k : Nat) (rec_impl_Ex_size : GEx → Option (Int × Int)) (p0 : GEx) : Nat → Int → Int → Int → Option (Int × Int)
  | 0, _, _, _ => none
  | n + 1, s11, s12, s13 => (if s13 < (p0.Kids.length : Int) then (req ((0 : Int) ≤ s13) ((p0.Kids[s13.toNat]?).bind fun e29 => ((rec_impl_Ex_size e29).bind fun x32 => (if s12 < (IntKind.wrap .i64 (x32.2 + 1)) then (impl_Ex_size.l0 k rec_impl_Ex_size p0 n (IntKind.wrap .i64 (s11 + x32.1)) (IntKind.wrap .i64 (x32.2 + 1)) (IntKind.wrap .i64 (s13 + 1))) else (impl_Ex_size.l0 k rec_impl_Ex_size p0 n (IntKind.wrap .i64 (s11 + x32.1)) s12 (IntKind.wrap .i64 (s13 + 1))))))) else (some (s11, s12)))
def impl_Ex_size.f : Nat → GEx → Option (Int × Int)
  | 0, _ => none
  | k + 1, p0 => ((impl_Ex_size.l0 k (impl_Ex_size.f k) p0 k 1 1 0).bind fun ⟨x24, x25⟩ => (some (x24, x25)))
def impl_isKind.f (p0 : Int) : Option Bool := ((impl_in.f p0 1 7).bind fun x2 => (some x2))
def impl_kids.f (p0 : Int) : Option Int := (req ((0 : Int) ≤ p0) (req (p0 < (8 : Nat)) (([0, 0, 2, 2, 2, 3, 3, 1][p0.toNat]?).bind fun e3 => (some e3))))
def slices_IndexFunc.l0 (k : Nat) (g1 : GEx → Option Bool) (p0 : List GEx) : Nat → Int → Option (Except Int Unit)
  | 0, _ => none
  | n + 1, s11 => (if s11 < (p0.length : Int) then (req ((0 : Int) ≤ s11) ((p0[s11.toNat]?).bind fun e25 => ((g1 e25).bind fun x28 => (if x28 = true then (some (.error s11)) else (slices_IndexFunc.l0 k g1 p0 n (IntKind.wrap .i64 (s11 + 1))))))) else (some (.ok ())))
def slices_IndexFunc.f (g1 : GEx → Option Bool) (k : Nat) (p0 : List GEx) : Option Int := ((slices_IndexFunc.l0 k g1 p0 k 0).bind fun o => match o with | .ok _ => (some (-1)) | .error r => some r)
def slices_ContainsFunc.f (g1 : GEx → Option Bool) (k : Nat) (p0 : List GEx) : Option Bool := ((slices_IndexFunc.f g1 k p0).bind fun x2 => (some (!(decide (x2 < 0)))))
mutual
def impl_Ex_formed_1.f : Nat → GEx → Option Bool
  | 0, _ => none
  | k + 1, p0 => ((impl_Ex_formed.f k p0).bind fun x2 => (some (!x2)))
def impl_Ex_formed.f : Nat → GEx → Option Bool
  | 0, _ => none
  | k + 1, p0 => ((impl_isKind.f p0.Kind).bind fun x2 => (if x2 = true then ((impl_kids.f p0.Kind).bind fun x7 => (if (p0.Kids.length : Int) = x7 then (if p0.Kind = 1 then ((impl_isSym.f p0.Sym).bind fun x14 => (if x14 = true then (if p0.Kind = 7 then ((impl_in.f p0.N 1 20).bind fun x21 => (if x21 = true then ((slices_ContainsFunc.f (fun y0 => impl_Ex_formed_1.f k y0) k p0.Kids).bind fun x26 => (some (!x26))) else (some false))) else (if p0.N = 0 then ((slices_ContainsFunc.f (fun y0 => impl_Ex_formed_1.f k y0) k p0.Kids).bind fun x31 => (some (!x31))) else (some false))) else (some false))) else (if p0.Sym = 0 then (if p0.Kind = 7 then ((impl_in.f p0.N 1 20).bind fun x38 => (if x38 = true then ((slices_ContainsFunc.f (fun y0 => impl_Ex_formed_1.f k y0) k p0.Kids).bind fun x43 => (some (!x43))) else (some false))) else (if p0.N = 0 then ((slices_ContainsFunc.f (fun y0 => impl_Ex_formed_1.f k y0) k p0.Kids).bind fun x48 => (some (!x48))) else (some false))) else (some false))) else (some false))) else (some false)))
end
def impl_ExOk.f (k : Nat) (p0 : GEx) : Option Bool := ((impl_Ex_size.f k p0).bind fun x2 => (if 12 < x2.1 then (some false) else (if 5 < x2.2 then (some false) else ((impl_Ex_formed.f k p0).bind fun x9 => (some x9)))))
def impl_Ex_turn.l0 (k : Nat) (rec_impl_Ex_turn : GEx → (List Int) → Option GEx) (p0 : GEx) (p1 : List Int) : Nat → (List GEx) → Int → Option (List GEx)
  | 0, _, _ => none
  | n + 1, s15, s16 => (if s16 < (p0.Kids.length : Int) then (req ((0 : Int) ≤ s16) ((p0.Kids[s16.toNat]?).bind fun e30 => ((rec_impl_Ex_turn e30 p1).bind fun x33 => (req ((s15.length + 1) * 48 ≤ 140737488355328) (impl_Ex_turn.l0 k rec_impl_Ex_turn p0 p1 n (s15 ++ [x33]) (IntKind.wrap .i64 (s16 + 1))))))) else (some s15))
def impl_Ex_turn.f : Nat → GEx → (List Int) → Option GEx
  | 0, _, _ => none
  | k + 1, p0, p1 => (if p0.Kind = 1 then (req ((0 : Int) ≤ p0.Sym) ((p1[p0.Sym.toNat]?).bind fun e4 => (some ((⟨1, e4, 0, []⟩ : GEx))))) else ((impl_Ex_turn.l0 k (impl_Ex_turn.f k) p0 p1 k [] 0).bind fun x26 => (some ((⟨p0.Kind, p0.Sym, p0.N, x26⟩ : GEx)))))
def impl_TurnEx.f (k : Nat) (p0 : GEx) (p1 : List Int) : Option GEx := ((impl_ExOk.f k p0).bind fun x2 => (if x2 = true then ((impl_TurnBy.f k p1).bind fun x7 => (if x7 = true then ((impl_Ex_turn.f k p0 p1).bind fun x12 => (some x12)) else (some ((⟨0, 0, 0, []⟩ : GEx))))) else (some ((⟨0, 0, 0, []⟩ : GEx)))))
def laws_eqExS.l0 (k : Nat) (rec_laws_eqEx : GEx → GEx → Option Bool) (p0 : List GEx) (p1 : List GEx) : Nat → Int → Option (Except Bool Unit)
  | 0, _ => none
  | n + 1, s16 => (if s16 < (p0.length : Int) then (req ((0 : Int) ≤ s16) ((p0[s16.toNat]?).bind fun e33 => (req ((0 : Int) ≤ s16) ((p1[s16.toNat]?).bind fun e36 => ((rec_laws_eqEx e33 e36).bind fun x39 => (if x39 = true then (laws_eqExS.l0 k rec_laws_eqEx p0 p1 n (IntKind.wrap .i64 (s16 + 1))) else (some (.error false)))))))) else (some (.ok ())))
mutual
def laws_eqExS.f : Nat → (List GEx) → (List GEx) → Option Bool
  | 0, _, _ => none
  | k + 1, p0, p1 => (if (p0.length : Int) = (p1.length : Int) then ((laws_eqExS.l0 k (laws_eqEx.f k) p0 p1 k 0).bind fun o => match o with | .ok _ => (some true) | .error r => some r) else (some false))
def laws_eqEx.f : Nat → GEx → GEx → Option Bool
  | 0, _, _ => none
  | k + 1, p0, p1 => (if p0.Kind = p1.Kind then (if p0.Sym = p1.Sym then (if p0.N = p1.N then ((laws_eqExS.f k p0.Kids p1.Kids).bind fun x8 => (if x8 = true then (some true) else (some false))) else (some false)) else (some false)) else (some false))
end
def laws_markExS.l0 (k : Nat) (rec_laws_markExS : (List GEx) → Int → Option (Int × (List GEx))) : Nat → (List GEx) → Int → Int → Option (Int × (List GEx))
  | 0, _, _, _ => none
  | n + 1, s17, s18, s19 => (if s19 < ((s17.length : Nat) : Int) then (req ((0 : Int) ≤ s19) (req (s19 < (s17.length : Nat)) ((s17[s19.toNat]?).bind fun e42 => (req ((0 : Int) ≤ s19) (req (s19 < (s17.length : Nat)) (req ((0 : Int) ≤ s19) (req (s19 < (s17.length : Nat)) (req ((0 : Int) ≤ s19) (req (s19 < (s17.length : Nat)) ((rec_laws_markExS e42.Kids (IntKind.wrap .i64 ((IntKind.wrap .i64 ((IntKind.wrap .i64 (s18 + 1)) + 1)) + 1))).bind fun x51 => (req (x51.2.length = e42.Kids.length) (laws_markExS.l0 k rec_laws_markExS n ((((s17.set s19.toNat ((⟨s18, e42.Sym, e42.N, e42.Kids⟩ : GEx))).set s19.toNat ((⟨s18, (IntKind.wrap .i64 (s18 + 1)), e42.N, e42.Kids⟩ : GEx))).set s19.toNat ((⟨s18, (IntKind.wrap .i64 (s18 + 1)), (IntKind.wrap .i64 ((IntKind.wrap .i64 (s18 + 1)) + 1)), e42.Kids⟩ : GEx))).set s19.toNat ((⟨s18, (IntKind.wrap .i64 (s18 + 1)), (IntKind.wrap .i64 ((IntKind.wrap .i64 (s18 + 1)) + 1)), x51.2⟩ : GEx))) x51.1 (IntKind.wrap .i64 (s19 + 1)))))))))))))) else (some (s18, s17)))
def laws_markExS.f : Nat → (List GEx) → Int → Option (Int × (List GEx))
  | 0, _, _ => none
  | k + 1, p0, p1 => ((laws_markExS.l0 k (laws_markExS.f k) k p0 p1 0).bind fun ⟨x36, x37⟩ => (some (x36, x37)))
def laws_markEx.f (k : Nat) (p0 : GEx) (p1 : Int) : Option (Int × GEx) := ((laws_markExS.f k p0.Kids p1).bind fun x2 => (req (x2.2.length = p0.Kids.length) (some (x2.1, ((⟨p0.Kind, p0.Sym, p0.N, x2.2⟩ : GEx))))))
def laws_heldExS.l0 (k : Nat) (rec_laws_heldExS : (List GEx) → Int → Option Int) (p0 : List GEx) : Nat → Int → Int → Option (Except Int Int)
  | 0, _, _ => none
  | n + 1, s26, s27 => (if s27 < (p0.length : Int) then (req ((0 : Int) ≤ s27) ((p0[s27.toNat]?).bind fun e57 => (if e57.Kind = s26 then (req ((0 : Int) ≤ s27) ((p0[s27.toNat]?).bind fun e62 => (if e62.Sym = (IntKind.wrap .i64 (s26 + 1)) then (req ((0 : Int) ≤ s27) ((p0[s27.toNat]?).bind fun e67 => (if e67.N = (IntKind.wrap .i64 ((IntKind.wrap .i64 (s26 + 1)) + 1)) then (req ((0 : Int) ≤ s27) ((p0[s27.toNat]?).bind fun e72 => ((rec_laws_heldExS e72.Kids (IntKind.wrap .i64 ((IntKind.wrap .i64 ((IntKind.wrap .i64 (s26 + 1)) + 1)) + 1))).bind fun x75 => (if x75 < 0 then (some (.error (-1))) else (laws_heldExS.l0 k rec_laws_heldExS p0 n x75 (IntKind.wrap .i64 (s27 + 1))))))) else (some (.error (-1)))))) else (some (.error (-1)))))) else (some (.error (-1)))))) else (some (.ok s26)))
def laws_heldExS.f : Nat → (List GEx) → Int → Option Int
  | 0, _, _ => none
  | k + 1, p0, p1 => ((laws_heldExS.l0 k (laws_heldExS.f k) p0 k p1 0).bind fun o => match o with | .ok x53 => (some x53) | .error r => some r)
def laws_heldEx.f (k : Nat) (p0 : GEx) (p1 : Int) : Option Int := ((laws_heldExS.f k p0.Kids p1).bind fun x2 => (if x2 < 0 then (some (-1)) else (some x2)))
def laws_FnExactTurnEx.f (k : Nat) (p0 : GEx) (p1 : List Int) : Option Bool := (if 1048576 < (p1.length : Int) then (some true) else ((laws_szEx.f k p0 1048576).bind fun x4 => (if x4 < 0 then (some true) else ((laws_toEx.f k p0).bind fun x9 => ((laws_toIntS.f k p1).bind fun x12 => ((spec_TurnEx.f k x9 x12).bind fun x15 => ((laws_toEx.f k p0).bind fun x18 => ((laws_toIntS.f k p1).bind fun x21 => ((impl_TurnEx.f k x18 x21).bind fun x24 => ((laws_eqEx.f k x24 x15).bind fun x27 => (if x27 = true then ((laws_toEx.f k p0).bind fun x32 => ((laws_eqEx.f k x18 x32).bind fun x35 => (if x35 = true then ((laws_toIntS.f k p1).bind fun x40 => ((laws_eqIntS.f k x21 x40).bind fun x43 => (if x43 = true then ((laws_markEx.f k x18 1).bind fun x48 => (req (x48.2.Kids.length = x18.Kids.length) ((laws_markIntS.f k x21 x48.1).bind fun x51 => (req (x51.2.length = x21.length) (if x51.1 < 0 then (some false) else ((laws_eqEx.f k x24 x15).bind fun x56 => (if x56 = true then ((laws_markEx.f k x24 1).bind fun x61 => (req (x61.2.Kids.length = x24.Kids.length) ((laws_heldEx.f k ((⟨x24.Kind, x24.Sym, x24.N, x61.2.Kids⟩ : GEx)) 1).bind fun x64 => (if x64 < 0 then (some false) else (if x64 = x61.1 then ((laws_toEx.f k p0).bind fun x71 => ((laws_toIntS.f k p1).bind fun x74 => ((impl_TurnEx.f k x71 x74).bind fun x77 => ((laws_eqEx.f k x77 x15).bind fun x80 => (if x80 = true then ((laws_heldEx.f k ((⟨x24.Kind, x24.Sym, x24.N, x61.2.Kids⟩ : GEx)) 1).bind fun x85 => (if x85 < 0 then (some false) else (if x85 = x61.1 then (some true) else (some false)))) else (some false)))))) else (some false)))))) else (some false)))))))) else (some false)))) else (some false)))) else (some false))))))))))))
end Go.Proofs.Ytgbgabkdbfeibaa
