/-
  No cell of these rows narrows 'for every input' (looked for: loops, veiled, ifaces, maps, wideKeys, modest, calm, conditions, laid).
  DERIVED. THE GIVEN ROWS OF THIS SEAT. 10 by the template 'for every input the law returns true; each argument reads behind the call as it read before'; 0 by the template 'total and deterministic' (their statements: YtlbnmldopjadoaaGreatTotals.lean).
  GIVEN WITH THE SEED: the statements are not yours to turn. If you find one false, say at which input.
  Laid BY PROGRAM, IN A SANDBOX (cutbox-rows.mjs): the forced cells as the released guide's own fill.sh prints them over the translation 4d591206ea660f4d… (all of the seat's roots in one cut). By AI agents, Wed Nov 11 2026. No macro, syntax, notation, axiom, sorry.
-/
import Derived.Test.YtlbnmldopjadoaaGreatChecked
import GoSem.Claim
import GoSem.ClaimJoined
import GoSem.ClaimMapViews
import Derived.JoinedTies
import Derived.KernelRfl
namespace Go.Proofs.YtlbnmldopjadoaaGreat
/- THE CELL 'sum', in the pinned program and in every row, IS THE sha256 OF THE DUMP (.gsa) THAT YtlbnmldopjadoaaGreatProg.lean LOADS. Nothing in Lean hashes anything: it is a label: what it is worth is what the hold of that sum in a sandbox is worth. -/
noncomputable def Tryz.pinned : Pinned := { name := "ytlbnmldopjadoaagreat", sum := "4d591206ea660f4d800af962b8e135ca36d2eef4b9f051e0ab928ae4caeb274f", checked := Tryz.checked }
namespace Rows
def none {H : Type} : Left H := { results := [], args := [] }

/-- 'laws.FnTurnBack': WHATEVER THE INPUT: true; the input reads as it did. -/
def fnTurnBackSpec : ChangeSpec := { name := "fnTurnBack", fn := fun _ => fun
  | [d1, d2] => { results := [.lit (.bool true)], args := [d1, d2] }
  | _ => none }
def fnTurnBackRow : OpenClaim := { program := "ytlbnmldopjadoaagreat", sum := "4d591206ea660f4d800af962b8e135ca36d2eef4b9f051e0ab928ae4caeb274f", func := "loop.example/bellman/laws.FnTurnBack", spec := "fnTurnBack", inPlace := ["slices.overlaps[loop.example/bellman/impl.Occ]"], unfollowed := true, recurses := true, apart := false }
def FnTurnBackSaid : Prop := fnTurnBackRow.holds Tryz.pinned (OpenSpec.ofChange fnTurnBackSpec)

/-- ITS FALSE NEIGHBOUR: 'it returns false'. Refute it at one input. -/
def fnTurnBackWrong : ChangeSpec := { name := "fnTurnBack", fn := fun _ => fun
  | [d1, d2] => { results := [.lit (.bool false)], args := [d1, d2] }
  | _ => none }
def FnTurnBackWrongFalsely : Prop := fnTurnBackRow.holds Tryz.pinned (OpenSpec.ofChange fnTurnBackWrong)

/-- 'laws.FnTapeOk': WHATEVER THE INPUT: true; the input reads as it did. -/
def fnTapeOkSpec : ChangeSpec := { name := "fnTapeOk", fn := fun _ => fun
  | [d] => { results := [.lit (.bool true)], args := [d] }
  | _ => none }
def fnTapeOkRow : OpenClaim := { program := "ytlbnmldopjadoaagreat", sum := "4d591206ea660f4d800af962b8e135ca36d2eef4b9f051e0ab928ae4caeb274f", func := "loop.example/bellman/laws.FnTapeOk", spec := "fnTapeOk", inPlace := ["slices.overlaps[loop.example/bellman/impl.Occ]"], unfollowed := true, recurses := true, apart := false }
def FnTapeOkSaid : Prop := fnTapeOkRow.holds Tryz.pinned (OpenSpec.ofChange fnTapeOkSpec)

/-- ITS FALSE NEIGHBOUR: 'it returns false'. Refute it at one input. -/
def fnTapeOkWrong : ChangeSpec := { name := "fnTapeOk", fn := fun _ => fun
  | [d] => { results := [.lit (.bool false)], args := [d] }
  | _ => none }
def FnTapeOkWrongFalsely : Prop := fnTapeOkRow.holds Tryz.pinned (OpenSpec.ofChange fnTapeOkWrong)

/-- 'laws.FnEngOne': WHATEVER THE INPUT: true; the input reads as it did. -/
def fnEngOneSpec : ChangeSpec := { name := "fnEngOne", fn := fun _ => fun
  | [d1, d2] => { results := [.lit (.bool true)], args := [d1, d2] }
  | _ => none }
def fnEngOneRow : OpenClaim := { program := "ytlbnmldopjadoaagreat", sum := "4d591206ea660f4d800af962b8e135ca36d2eef4b9f051e0ab928ae4caeb274f", func := "loop.example/bellman/laws.FnEngOne", spec := "fnEngOne", inPlace := ["slices.overlaps[loop.example/bellman/impl.Occ]"], unfollowed := true, recurses := true, apart := false }
def FnEngOneSaid : Prop := fnEngOneRow.holds Tryz.pinned (OpenSpec.ofChange fnEngOneSpec)

/-- ITS FALSE NEIGHBOUR: 'it returns false'. Refute it at one input. -/
def fnEngOneWrong : ChangeSpec := { name := "fnEngOne", fn := fun _ => fun
  | [d1, d2] => { results := [.lit (.bool false)], args := [d1, d2] }
  | _ => none }
def FnEngOneWrongFalsely : Prop := fnEngOneRow.holds Tryz.pinned (OpenSpec.ofChange fnEngOneWrong)

/-- 'laws.FnEngMore': WHATEVER THE INPUT: true; the input reads as it did. -/
def fnEngMoreSpec : ChangeSpec := { name := "fnEngMore", fn := fun _ => fun
  | [d1, d2] => { results := [.lit (.bool true)], args := [d1, d2] }
  | _ => none }
def fnEngMoreRow : OpenClaim := { program := "ytlbnmldopjadoaagreat", sum := "4d591206ea660f4d800af962b8e135ca36d2eef4b9f051e0ab928ae4caeb274f", func := "loop.example/bellman/laws.FnEngMore", spec := "fnEngMore", inPlace := ["slices.overlaps[loop.example/bellman/impl.Occ]"], unfollowed := true, recurses := true, apart := false }
def FnEngMoreSaid : Prop := fnEngMoreRow.holds Tryz.pinned (OpenSpec.ofChange fnEngMoreSpec)

/-- ITS FALSE NEIGHBOUR: 'it returns false'. Refute it at one input. -/
def fnEngMoreWrong : ChangeSpec := { name := "fnEngMore", fn := fun _ => fun
  | [d1, d2] => { results := [.lit (.bool false)], args := [d1, d2] }
  | _ => none }
def FnEngMoreWrongFalsely : Prop := fnEngMoreRow.holds Tryz.pinned (OpenSpec.ofChange fnEngMoreWrong)

/-- 'laws.FnGraph': WHATEVER THE INPUT: true; the input reads as it did. -/
def fnGraphSpec : ChangeSpec := { name := "fnGraph", fn := fun _ => fun
  | [d] => { results := [.lit (.bool true)], args := [d] }
  | _ => none }
def fnGraphRow : OpenClaim := { program := "ytlbnmldopjadoaagreat", sum := "4d591206ea660f4d800af962b8e135ca36d2eef4b9f051e0ab928ae4caeb274f", func := "loop.example/bellman/laws.FnGraph", spec := "fnGraph", inPlace := ["slices.overlaps[loop.example/bellman/impl.Occ]"], unfollowed := true, recurses := true, apart := false }
def FnGraphSaid : Prop := fnGraphRow.holds Tryz.pinned (OpenSpec.ofChange fnGraphSpec)

/-- ITS FALSE NEIGHBOUR: 'it returns false'. Refute it at one input. -/
def fnGraphWrong : ChangeSpec := { name := "fnGraph", fn := fun _ => fun
  | [d] => { results := [.lit (.bool false)], args := [d] }
  | _ => none }
def FnGraphWrongFalsely : Prop := fnGraphRow.holds Tryz.pinned (OpenSpec.ofChange fnGraphWrong)

/-- 'laws.FnEngKeys': WHATEVER THE INPUT: true; the input reads as it did. -/
def fnEngKeysSpec : ChangeSpec := { name := "fnEngKeys", fn := fun _ => fun
  | [d] => { results := [.lit (.bool true)], args := [d] }
  | _ => none }
def fnEngKeysRow : OpenClaim := { program := "ytlbnmldopjadoaagreat", sum := "4d591206ea660f4d800af962b8e135ca36d2eef4b9f051e0ab928ae4caeb274f", func := "loop.example/bellman/laws.FnEngKeys", spec := "fnEngKeys", inPlace := ["slices.overlaps[loop.example/bellman/impl.Occ]"], unfollowed := true, recurses := true, apart := false }
def FnEngKeysSaid : Prop := fnEngKeysRow.holds Tryz.pinned (OpenSpec.ofChange fnEngKeysSpec)

/-- ITS FALSE NEIGHBOUR: 'it returns false'. Refute it at one input. -/
def fnEngKeysWrong : ChangeSpec := { name := "fnEngKeys", fn := fun _ => fun
  | [d] => { results := [.lit (.bool false)], args := [d] }
  | _ => none }
def FnEngKeysWrongFalsely : Prop := fnEngKeysRow.holds Tryz.pinned (OpenSpec.ofChange fnEngKeysWrong)

/-- 'laws.FnEngRaise': WHATEVER THE INPUT: true; the input reads as it did. -/
def fnEngRaiseSpec : ChangeSpec := { name := "fnEngRaise", fn := fun _ => fun
  | [d] => { results := [.lit (.bool true)], args := [d] }
  | _ => none }
def fnEngRaiseRow : OpenClaim := { program := "ytlbnmldopjadoaagreat", sum := "4d591206ea660f4d800af962b8e135ca36d2eef4b9f051e0ab928ae4caeb274f", func := "loop.example/bellman/laws.FnEngRaise", spec := "fnEngRaise", inPlace := ["slices.overlaps[loop.example/bellman/impl.Occ]"], unfollowed := true, recurses := true, apart := false }
def FnEngRaiseSaid : Prop := fnEngRaiseRow.holds Tryz.pinned (OpenSpec.ofChange fnEngRaiseSpec)

/-- ITS FALSE NEIGHBOUR: 'it returns false'. Refute it at one input. -/
def fnEngRaiseWrong : ChangeSpec := { name := "fnEngRaise", fn := fun _ => fun
  | [d] => { results := [.lit (.bool false)], args := [d] }
  | _ => none }
def FnEngRaiseWrongFalsely : Prop := fnEngRaiseRow.holds Tryz.pinned (OpenSpec.ofChange fnEngRaiseWrong)

/-- 'laws.FnEngTwice': WHATEVER THE INPUT: true; the input reads as it did. -/
def fnEngTwiceSpec : ChangeSpec := { name := "fnEngTwice", fn := fun _ => fun
  | [d] => { results := [.lit (.bool true)], args := [d] }
  | _ => none }
def fnEngTwiceRow : OpenClaim := { program := "ytlbnmldopjadoaagreat", sum := "4d591206ea660f4d800af962b8e135ca36d2eef4b9f051e0ab928ae4caeb274f", func := "loop.example/bellman/laws.FnEngTwice", spec := "fnEngTwice", inPlace := ["slices.overlaps[loop.example/bellman/impl.Occ]"], unfollowed := true, recurses := true, apart := false }
def FnEngTwiceSaid : Prop := fnEngTwiceRow.holds Tryz.pinned (OpenSpec.ofChange fnEngTwiceSpec)

/-- ITS FALSE NEIGHBOUR: 'it returns false'. Refute it at one input. -/
def fnEngTwiceWrong : ChangeSpec := { name := "fnEngTwice", fn := fun _ => fun
  | [d] => { results := [.lit (.bool false)], args := [d] }
  | _ => none }
def FnEngTwiceWrongFalsely : Prop := fnEngTwiceRow.holds Tryz.pinned (OpenSpec.ofChange fnEngTwiceWrong)

/-- 'laws.FnEngWhen': WHATEVER THE INPUT: true; the input reads as it did. -/
def fnEngWhenSpec : ChangeSpec := { name := "fnEngWhen", fn := fun _ => fun
  | [d] => { results := [.lit (.bool true)], args := [d] }
  | _ => none }
def fnEngWhenRow : OpenClaim := { program := "ytlbnmldopjadoaagreat", sum := "4d591206ea660f4d800af962b8e135ca36d2eef4b9f051e0ab928ae4caeb274f", func := "loop.example/bellman/laws.FnEngWhen", spec := "fnEngWhen", inPlace := ["slices.overlaps[loop.example/bellman/impl.Occ]"], unfollowed := true, recurses := true, apart := false }
def FnEngWhenSaid : Prop := fnEngWhenRow.holds Tryz.pinned (OpenSpec.ofChange fnEngWhenSpec)

/-- ITS FALSE NEIGHBOUR: 'it returns false'. Refute it at one input. -/
def fnEngWhenWrong : ChangeSpec := { name := "fnEngWhen", fn := fun _ => fun
  | [d] => { results := [.lit (.bool false)], args := [d] }
  | _ => none }
def FnEngWhenWrongFalsely : Prop := fnEngWhenRow.holds Tryz.pinned (OpenSpec.ofChange fnEngWhenWrong)

/-- 'laws.FnEng': WHATEVER THE INPUT: true; the input reads as it did. -/
def fnEngSpec : ChangeSpec := { name := "fnEng", fn := fun _ => fun
  | [d] => { results := [.lit (.bool true)], args := [d] }
  | _ => none }
def fnEngRow : OpenClaim := { program := "ytlbnmldopjadoaagreat", sum := "4d591206ea660f4d800af962b8e135ca36d2eef4b9f051e0ab928ae4caeb274f", func := "loop.example/bellman/laws.FnEng", spec := "fnEng", inPlace := ["slices.overlaps[loop.example/bellman/impl.Occ]"], unfollowed := true, recurses := true, apart := false }
def FnEngSaid : Prop := fnEngRow.holds Tryz.pinned (OpenSpec.ofChange fnEngSpec)

/-- ITS FALSE NEIGHBOUR: 'it returns false'. Refute it at one input. -/
def fnEngWrong : ChangeSpec := { name := "fnEng", fn := fun _ => fun
  | [d] => { results := [.lit (.bool false)], args := [d] }
  | _ => none }
def FnEngWrongFalsely : Prop := fnEngRow.holds Tryz.pinned (OpenSpec.ofChange fnEngWrong)

/- THE SECOND FORM. 'bulk': how many values and letters a reading holds, each counted each time it is reached (what is shared counts as often as it is met; a slice's spare places count too). A statement '..UptoSaid' is the law's where the arguments, and the package variables that the reading takes, are together of bulk at most 1048576: NARROWER than '..Said'. Prove '..Said' where nothing that the law and all that it calls make is longer than what came in: it says more and counts as full. Else prove '..UptoSaid'. A law counts once. -/
mutual
def uptoBulk {H : Type} : DataW H → Nat
  | .lit (.string bytes) => bytes.length + 1
  | .lit _ => 1
  | .nil => 1
  | .ptr d => uptoBulk d + 1
  | .slice elems spare => uptoBulkAll elems + uptoBulkAll spare + 1
  | .agg parts => uptoBulkAll parts + 1
  | .iface _ d => uptoBulk d + 1
  | .map entries => uptoBulkEntries entries + 1
  | .held _ => 1
def uptoBulkAll {H : Type} : List (DataW H) → Nat
  | [] => 0
  | d :: r => uptoBulk d + uptoBulkAll r
def uptoBulkEntries {H : Type} : List (Lit × DataW H) → Nat
  | [] => 0
  | x :: r => uptoBulkEntry x + uptoBulkEntries r
def uptoBulkEntry {H : Type} : Lit × DataW H → Nat
  | (.string bytes, d) => bytes.length + uptoBulk d + 1
  | (_, d) => uptoBulk d + 1
 end
def uptoSmall : (H : Type) → List (DataW H) → Bool := fun _ ds => decide (uptoBulkAll ds ≤ 1048576)
def OpenSpec.upto (s : _root_.Go.ChangeSpec) : _root_.Go.OpenSpec := { _root_.Go.OpenSpec.ofChange s with cond := some uptoSmall }

/-- 'laws.FnTurnBack', WHERE WHAT IT READS IS OF BULK AT MOST 1048576: true; the input reads as it did. -/
def fnTurnBackUptoRow : OpenClaim := { program := "ytlbnmldopjadoaagreat", sum := "4d591206ea660f4d800af962b8e135ca36d2eef4b9f051e0ab928ae4caeb274f", func := "loop.example/bellman/laws.FnTurnBack", spec := "fnTurnBack", inPlace := ["slices.overlaps[loop.example/bellman/impl.Occ]"], unfollowed := true, recurses := true, apart := false, narrowed := true }
def FnTurnBackUptoSaid : Prop := fnTurnBackUptoRow.holds Tryz.pinned (OpenSpec.upto fnTurnBackSpec)

/-- 'laws.FnTapeOk', WHERE WHAT IT READS IS OF BULK AT MOST 1048576: true; the input reads as it did. -/
def fnTapeOkUptoRow : OpenClaim := { program := "ytlbnmldopjadoaagreat", sum := "4d591206ea660f4d800af962b8e135ca36d2eef4b9f051e0ab928ae4caeb274f", func := "loop.example/bellman/laws.FnTapeOk", spec := "fnTapeOk", inPlace := ["slices.overlaps[loop.example/bellman/impl.Occ]"], unfollowed := true, recurses := true, apart := false, narrowed := true }
def FnTapeOkUptoSaid : Prop := fnTapeOkUptoRow.holds Tryz.pinned (OpenSpec.upto fnTapeOkSpec)

/-- 'laws.FnEngOne', WHERE WHAT IT READS IS OF BULK AT MOST 1048576: true; the input reads as it did. -/
def fnEngOneUptoRow : OpenClaim := { program := "ytlbnmldopjadoaagreat", sum := "4d591206ea660f4d800af962b8e135ca36d2eef4b9f051e0ab928ae4caeb274f", func := "loop.example/bellman/laws.FnEngOne", spec := "fnEngOne", inPlace := ["slices.overlaps[loop.example/bellman/impl.Occ]"], unfollowed := true, recurses := true, apart := false, narrowed := true }
def FnEngOneUptoSaid : Prop := fnEngOneUptoRow.holds Tryz.pinned (OpenSpec.upto fnEngOneSpec)

/-- 'laws.FnEngMore', WHERE WHAT IT READS IS OF BULK AT MOST 1048576: true; the input reads as it did. -/
def fnEngMoreUptoRow : OpenClaim := { program := "ytlbnmldopjadoaagreat", sum := "4d591206ea660f4d800af962b8e135ca36d2eef4b9f051e0ab928ae4caeb274f", func := "loop.example/bellman/laws.FnEngMore", spec := "fnEngMore", inPlace := ["slices.overlaps[loop.example/bellman/impl.Occ]"], unfollowed := true, recurses := true, apart := false, narrowed := true }
def FnEngMoreUptoSaid : Prop := fnEngMoreUptoRow.holds Tryz.pinned (OpenSpec.upto fnEngMoreSpec)

/-- 'laws.FnGraph', WHERE WHAT IT READS IS OF BULK AT MOST 1048576: true; the input reads as it did. -/
def fnGraphUptoRow : OpenClaim := { program := "ytlbnmldopjadoaagreat", sum := "4d591206ea660f4d800af962b8e135ca36d2eef4b9f051e0ab928ae4caeb274f", func := "loop.example/bellman/laws.FnGraph", spec := "fnGraph", inPlace := ["slices.overlaps[loop.example/bellman/impl.Occ]"], unfollowed := true, recurses := true, apart := false, narrowed := true }
def FnGraphUptoSaid : Prop := fnGraphUptoRow.holds Tryz.pinned (OpenSpec.upto fnGraphSpec)

/-- 'laws.FnEngKeys', WHERE WHAT IT READS IS OF BULK AT MOST 1048576: true; the input reads as it did. -/
def fnEngKeysUptoRow : OpenClaim := { program := "ytlbnmldopjadoaagreat", sum := "4d591206ea660f4d800af962b8e135ca36d2eef4b9f051e0ab928ae4caeb274f", func := "loop.example/bellman/laws.FnEngKeys", spec := "fnEngKeys", inPlace := ["slices.overlaps[loop.example/bellman/impl.Occ]"], unfollowed := true, recurses := true, apart := false, narrowed := true }
def FnEngKeysUptoSaid : Prop := fnEngKeysUptoRow.holds Tryz.pinned (OpenSpec.upto fnEngKeysSpec)

/-- 'laws.FnEngRaise', WHERE WHAT IT READS IS OF BULK AT MOST 1048576: true; the input reads as it did. -/
def fnEngRaiseUptoRow : OpenClaim := { program := "ytlbnmldopjadoaagreat", sum := "4d591206ea660f4d800af962b8e135ca36d2eef4b9f051e0ab928ae4caeb274f", func := "loop.example/bellman/laws.FnEngRaise", spec := "fnEngRaise", inPlace := ["slices.overlaps[loop.example/bellman/impl.Occ]"], unfollowed := true, recurses := true, apart := false, narrowed := true }
def FnEngRaiseUptoSaid : Prop := fnEngRaiseUptoRow.holds Tryz.pinned (OpenSpec.upto fnEngRaiseSpec)

/-- 'laws.FnEngTwice', WHERE WHAT IT READS IS OF BULK AT MOST 1048576: true; the input reads as it did. -/
def fnEngTwiceUptoRow : OpenClaim := { program := "ytlbnmldopjadoaagreat", sum := "4d591206ea660f4d800af962b8e135ca36d2eef4b9f051e0ab928ae4caeb274f", func := "loop.example/bellman/laws.FnEngTwice", spec := "fnEngTwice", inPlace := ["slices.overlaps[loop.example/bellman/impl.Occ]"], unfollowed := true, recurses := true, apart := false, narrowed := true }
def FnEngTwiceUptoSaid : Prop := fnEngTwiceUptoRow.holds Tryz.pinned (OpenSpec.upto fnEngTwiceSpec)

/-- 'laws.FnEngWhen', WHERE WHAT IT READS IS OF BULK AT MOST 1048576: true; the input reads as it did. -/
def fnEngWhenUptoRow : OpenClaim := { program := "ytlbnmldopjadoaagreat", sum := "4d591206ea660f4d800af962b8e135ca36d2eef4b9f051e0ab928ae4caeb274f", func := "loop.example/bellman/laws.FnEngWhen", spec := "fnEngWhen", inPlace := ["slices.overlaps[loop.example/bellman/impl.Occ]"], unfollowed := true, recurses := true, apart := false, narrowed := true }
def FnEngWhenUptoSaid : Prop := fnEngWhenUptoRow.holds Tryz.pinned (OpenSpec.upto fnEngWhenSpec)

/-- 'laws.FnEng', WHERE WHAT IT READS IS OF BULK AT MOST 1048576: true; the input reads as it did. -/
def fnEngUptoRow : OpenClaim := { program := "ytlbnmldopjadoaagreat", sum := "4d591206ea660f4d800af962b8e135ca36d2eef4b9f051e0ab928ae4caeb274f", func := "loop.example/bellman/laws.FnEng", spec := "fnEng", inPlace := ["slices.overlaps[loop.example/bellman/impl.Occ]"], unfollowed := true, recurses := true, apart := false, narrowed := true }
def FnEngUptoSaid : Prop := fnEngUptoRow.holds Tryz.pinned (OpenSpec.upto fnEngSpec)

end Rows
end Go.Proofs.YtlbnmldopjadoaaGreat
