/-
  NARROWER THAN 'FOR EVERY INPUT', by the rows' own cells (each row's printed sentence says how): FnExactTurnEx: loops.
  DERIVED. THE GIVEN ROWS OF THIS SEAT. 5 by the template 'for every input the law returns true; each argument reads behind the call as it read before'; 0 by the template 'total and deterministic' (their statements: YtgbgabkdbfeibaaTotals.lean).
  GIVEN WITH THE SEED: the statements are not yours to turn. If you find one false, say at which input.
  Laid BY PROGRAM, IN A SANDBOX (cutbox-rows.mjs): the forced cells as the released guide's own fill.sh prints them over the translation 97d804e3cdbdb123… (all of the seat's roots in one cut). By AI agents, Wed Nov 11 2026. No macro, syntax, notation, axiom, sorry.
-/
import Derived.Test.YtgbgabkdbfeibaaChecked
import GoSem.Claim
import GoSem.ClaimJoined
import GoSem.ClaimMapViews
import Derived.JoinedTies
import Derived.KernelRfl
namespace Go.Proofs.Ytgbgabkdbfeibaa
/- THE CELL 'sum', in the pinned program and in every row, IS THE sha256 OF THE DUMP (.gsa) THAT YtgbgabkdbfeibaaProg.lean LOADS. Nothing in Lean hashes anything: it is a label: what it is worth is what the hold of that sum in a sandbox is worth. -/
noncomputable def Try.pinned : Pinned := { name := "ytgbgabkdbfeibaa", sum := "97d804e3cdbdb123587f8f05dbe9515bfdca8e4f44d353378ff70a279aea6573", checked := Try.checked }
namespace Rows
def none {H : Type} : Left H := { results := [], args := [] }

/-- 'laws.FnExactTurnLate': WHATEVER THE INPUT: true; the input reads as it did. -/
def fnExactTurnLateSpec : ChangeSpec := { name := "fnExactTurnLate", fn := fun _ => fun
  | [d1, d2] => { results := [.lit (.bool true)], args := [d1, d2] }
  | _ => none }
def fnExactTurnLateRow : OpenClaim := { program := "ytgbgabkdbfeibaa", sum := "97d804e3cdbdb123587f8f05dbe9515bfdca8e4f44d353378ff70a279aea6573", func := "loop.example/bellman/laws.FnExactTurnLate", spec := "fnExactTurnLate", apart := false }
def FnExactTurnLateSaid : Prop := fnExactTurnLateRow.holds Try.pinned (OpenSpec.ofChange fnExactTurnLateSpec)

/-- ITS FALSE NEIGHBOUR: 'it returns false'. Refute it at one input. -/
def fnExactTurnLateWrong : ChangeSpec := { name := "fnExactTurnLate", fn := fun _ => fun
  | [d1, d2] => { results := [.lit (.bool false)], args := [d1, d2] }
  | _ => none }
def FnExactTurnLateWrongFalsely : Prop := fnExactTurnLateRow.holds Try.pinned (OpenSpec.ofChange fnExactTurnLateWrong)

/-- 'laws.FnExactTurnEvs': WHATEVER THE INPUT: true; the input reads as it did. -/
def fnExactTurnEvsSpec : ChangeSpec := { name := "fnExactTurnEvs", fn := fun _ => fun
  | [d1, d2] => { results := [.lit (.bool true)], args := [d1, d2] }
  | _ => none }
def fnExactTurnEvsRow : OpenClaim := { program := "ytgbgabkdbfeibaa", sum := "97d804e3cdbdb123587f8f05dbe9515bfdca8e4f44d353378ff70a279aea6573", func := "loop.example/bellman/laws.FnExactTurnEvs", spec := "fnExactTurnEvs", apart := false }
def FnExactTurnEvsSaid : Prop := fnExactTurnEvsRow.holds Try.pinned (OpenSpec.ofChange fnExactTurnEvsSpec)

/-- ITS FALSE NEIGHBOUR: 'it returns false'. Refute it at one input. -/
def fnExactTurnEvsWrong : ChangeSpec := { name := "fnExactTurnEvs", fn := fun _ => fun
  | [d1, d2] => { results := [.lit (.bool false)], args := [d1, d2] }
  | _ => none }
def FnExactTurnEvsWrongFalsely : Prop := fnExactTurnEvsRow.holds Try.pinned (OpenSpec.ofChange fnExactTurnEvsWrong)

/-- 'laws.FnTurnOccs': WHATEVER THE INPUT: true; the input reads as it did. -/
def fnTurnOccsSpec : ChangeSpec := { name := "fnTurnOccs", fn := fun _ => fun
  | [d] => { results := [.lit (.bool true)], args := [d] }
  | _ => none }
def fnTurnOccsRow : OpenClaim := { program := "ytgbgabkdbfeibaa", sum := "97d804e3cdbdb123587f8f05dbe9515bfdca8e4f44d353378ff70a279aea6573", func := "loop.example/bellman/laws.FnTurnOccs", spec := "fnTurnOccs", unfollowed := true, recurses := true, apart := false }
def FnTurnOccsSaid : Prop := fnTurnOccsRow.holds Try.pinned (OpenSpec.ofChange fnTurnOccsSpec)

/-- ITS FALSE NEIGHBOUR: 'it returns false'. Refute it at one input. -/
def fnTurnOccsWrong : ChangeSpec := { name := "fnTurnOccs", fn := fun _ => fun
  | [d] => { results := [.lit (.bool false)], args := [d] }
  | _ => none }
def FnTurnOccsWrongFalsely : Prop := fnTurnOccsRow.holds Try.pinned (OpenSpec.ofChange fnTurnOccsWrong)

/-- 'laws.FnExactTurnEx': WHATEVER THE INPUT: true; the input reads as it did. -/
def fnExactTurnExSpec : ChangeSpec := { name := "fnExactTurnEx", fn := fun _ => fun
  | [d1, d2] => { results := [.lit (.bool true)], args := [d1, d2] }
  | _ => none }
def fnExactTurnExRow : OpenClaim := { program := "ytgbgabkdbfeibaa", sum := "97d804e3cdbdb123587f8f05dbe9515bfdca8e4f44d353378ff70a279aea6573", func := "loop.example/bellman/laws.FnExactTurnEx", spec := "fnExactTurnEx", unfollowed := true, recurses := true, loops := true, apart := false }
def FnExactTurnExSaid : Prop := fnExactTurnExRow.holds Try.pinned (OpenSpec.ofChange fnExactTurnExSpec)

/-- ITS FALSE NEIGHBOUR: 'it returns false'. Refute it at one input. -/
def fnExactTurnExWrong : ChangeSpec := { name := "fnExactTurnEx", fn := fun _ => fun
  | [d1, d2] => { results := [.lit (.bool false)], args := [d1, d2] }
  | _ => none }
def FnExactTurnExWrongFalsely : Prop := fnExactTurnExRow.holds Try.pinned (OpenSpec.ofChange fnExactTurnExWrong)

/-- 'laws.FnExactTurnOccs': WHATEVER THE INPUT: true; the input reads as it did. -/
def fnExactTurnOccsSpec : ChangeSpec := { name := "fnExactTurnOccs", fn := fun _ => fun
  | [d1, d2] => { results := [.lit (.bool true)], args := [d1, d2] }
  | _ => none }
def fnExactTurnOccsRow : OpenClaim := { program := "ytgbgabkdbfeibaa", sum := "97d804e3cdbdb123587f8f05dbe9515bfdca8e4f44d353378ff70a279aea6573", func := "loop.example/bellman/laws.FnExactTurnOccs", spec := "fnExactTurnOccs", apart := false }
def FnExactTurnOccsSaid : Prop := fnExactTurnOccsRow.holds Try.pinned (OpenSpec.ofChange fnExactTurnOccsSpec)

/-- ITS FALSE NEIGHBOUR: 'it returns false'. Refute it at one input. -/
def fnExactTurnOccsWrong : ChangeSpec := { name := "fnExactTurnOccs", fn := fun _ => fun
  | [d1, d2] => { results := [.lit (.bool false)], args := [d1, d2] }
  | _ => none }
def FnExactTurnOccsWrongFalsely : Prop := fnExactTurnOccsRow.holds Try.pinned (OpenSpec.ofChange fnExactTurnOccsWrong)

/- THE SECOND FORM. 'bulk': how many values and letters a reading holds, each counted each time it is reached (what is shared counts as often as it is met; a slice's spare places count too). A statement '..UptoSaid' is the law's where the arguments, and the package variables that the reading takes, are together of bulk at most 1048576: NARROWER than '..Said'. Prove '..Said' where nothing that the law and all that it calls make is longer than what came in: it says more and counts as full. Else prove '..UptoSaid'. A law counts once. -/
mutual
def uptoBulk {H : Type} : DataW H → Nat
  | .lit (.string bytes) => bytes.length + 1
  | .lit _ => 1
  | .nil => 1
  | .ptr d => uptoBulk d + 1
  | .slice elems spare => uptoBulkAll elems + uptoBulkAll spare + 1
  | .agg parts => uptoBulkAll parts + 1
  | .iface _ d => uptoBulk d + 1
  | .map entries => uptoBulkEntries entries + 1
  | .held _ => 1
def uptoBulkAll {H : Type} : List (DataW H) → Nat
  | [] => 0
  | d :: r => uptoBulk d + uptoBulkAll r
def uptoBulkEntries {H : Type} : List (Lit × DataW H) → Nat
  | [] => 0
  | x :: r => uptoBulkEntry x + uptoBulkEntries r
def uptoBulkEntry {H : Type} : Lit × DataW H → Nat
  | (.string bytes, d) => bytes.length + uptoBulk d + 1
  | (_, d) => uptoBulk d + 1
 end
def uptoSmall : (H : Type) → List (DataW H) → Bool := fun _ ds => decide (uptoBulkAll ds ≤ 1048576)
def OpenSpec.upto (s : _root_.Go.ChangeSpec) : _root_.Go.OpenSpec := { _root_.Go.OpenSpec.ofChange s with cond := some uptoSmall }

/-- 'laws.FnExactTurnLate', WHERE WHAT IT READS IS OF BULK AT MOST 1048576: true; the input reads as it did. -/
def fnExactTurnLateUptoRow : OpenClaim := { program := "ytgbgabkdbfeibaa", sum := "97d804e3cdbdb123587f8f05dbe9515bfdca8e4f44d353378ff70a279aea6573", func := "loop.example/bellman/laws.FnExactTurnLate", spec := "fnExactTurnLate", apart := false, narrowed := true }
def FnExactTurnLateUptoSaid : Prop := fnExactTurnLateUptoRow.holds Try.pinned (OpenSpec.upto fnExactTurnLateSpec)

/-- 'laws.FnExactTurnEvs', WHERE WHAT IT READS IS OF BULK AT MOST 1048576: true; the input reads as it did. -/
def fnExactTurnEvsUptoRow : OpenClaim := { program := "ytgbgabkdbfeibaa", sum := "97d804e3cdbdb123587f8f05dbe9515bfdca8e4f44d353378ff70a279aea6573", func := "loop.example/bellman/laws.FnExactTurnEvs", spec := "fnExactTurnEvs", apart := false, narrowed := true }
def FnExactTurnEvsUptoSaid : Prop := fnExactTurnEvsUptoRow.holds Try.pinned (OpenSpec.upto fnExactTurnEvsSpec)

/-- 'laws.FnTurnOccs', WHERE WHAT IT READS IS OF BULK AT MOST 1048576: true; the input reads as it did. -/
def fnTurnOccsUptoRow : OpenClaim := { program := "ytgbgabkdbfeibaa", sum := "97d804e3cdbdb123587f8f05dbe9515bfdca8e4f44d353378ff70a279aea6573", func := "loop.example/bellman/laws.FnTurnOccs", spec := "fnTurnOccs", unfollowed := true, recurses := true, apart := false, narrowed := true }
def FnTurnOccsUptoSaid : Prop := fnTurnOccsUptoRow.holds Try.pinned (OpenSpec.upto fnTurnOccsSpec)

/-- 'laws.FnExactTurnEx', WHERE WHAT IT READS IS OF BULK AT MOST 1048576: true; the input reads as it did. -/
def fnExactTurnExUptoRow : OpenClaim := { program := "ytgbgabkdbfeibaa", sum := "97d804e3cdbdb123587f8f05dbe9515bfdca8e4f44d353378ff70a279aea6573", func := "loop.example/bellman/laws.FnExactTurnEx", spec := "fnExactTurnEx", unfollowed := true, recurses := true, loops := true, apart := false, narrowed := true }
def FnExactTurnExUptoSaid : Prop := fnExactTurnExUptoRow.holds Try.pinned (OpenSpec.upto fnExactTurnExSpec)

/-- 'laws.FnExactTurnOccs', WHERE WHAT IT READS IS OF BULK AT MOST 1048576: true; the input reads as it did. -/
def fnExactTurnOccsUptoRow : OpenClaim := { program := "ytgbgabkdbfeibaa", sum := "97d804e3cdbdb123587f8f05dbe9515bfdca8e4f44d353378ff70a279aea6573", func := "loop.example/bellman/laws.FnExactTurnOccs", spec := "fnExactTurnOccs", apart := false, narrowed := true }
def FnExactTurnOccsUptoSaid : Prop := fnExactTurnOccsUptoRow.holds Try.pinned (OpenSpec.upto fnExactTurnOccsSpec)

end Rows
end Go.Proofs.Ytgbgabkdbfeibaa
