/-
  NARROWER THAN 'FOR EVERY INPUT', by the rows' own cells (each row's printed sentence says how): FnExactMeanFirst: loops · FnExactMeanUsed: loops · FnExactMeanOf: loops · FnExactMeanAt: loops.
  DERIVED. THE GIVEN ROWS OF THIS SEAT. 12 by the template 'for every input the law returns true; each argument reads behind the call as it read before'; 0 by the template 'total and deterministic' (their statements: YtdhlbpgjcfdofaaGreatTotals.lean).
  GIVEN WITH THE SEED: the statements are not yours to turn. If you find one false, say at which input.
  Laid BY PROGRAM, IN A SANDBOX (cutbox-rows.mjs): the forced cells as the released guide's own fill.sh prints them over the translation 7a164d9d937cedcf… (all of the seat's roots in one cut). By AI agents, Wed Nov 11 2026. No macro, syntax, notation, axiom, sorry.
-/
import Derived.Test.YtdhlbpgjcfdofaaGreatChecked
import GoSem.Claim
import GoSem.ClaimJoined
import GoSem.ClaimMapViews
import Derived.JoinedTies
import Derived.KernelRfl
namespace Go.Proofs.YtdhlbpgjcfdofaaGreat
/- THE CELL 'sum', in the pinned program and in every row, IS THE sha256 OF THE DUMP (.gsa) THAT YtdhlbpgjcfdofaaGreatProg.lean LOADS. Nothing in Lean hashes anything: it is a label: what it is worth is what the hold of that sum in a sandbox is worth. -/
noncomputable def Tryz.pinned : Pinned := { name := "ytdhlbpgjcfdofaagreat", sum := "7a164d9d937cedcf28287dcbf6e8c83f9b4ea029b67f043270a98abaa1748082", checked := Tryz.checked }
namespace Rows
def none {H : Type} : Left H := { results := [], args := [] }

/-- 'laws.FnTurn': WHATEVER THE INPUT: true; the input reads as it did. -/
def fnTurnSpec : ChangeSpec := { name := "fnTurn", fn := fun _ => fun
  | [d1, d2] => { results := [.lit (.bool true)], args := [d1, d2] }
  | _ => none }
def fnTurnRow : OpenClaim := { program := "ytdhlbpgjcfdofaagreat", sum := "7a164d9d937cedcf28287dcbf6e8c83f9b4ea029b67f043270a98abaa1748082", func := "loop.example/bellman/laws.FnTurn", spec := "fnTurn", inPlace := ["slices.overlaps[loop.example/bellman/impl.Occ]"], unfollowed := true, recurses := true, apart := false }
def FnTurnSaid : Prop := fnTurnRow.holds Tryz.pinned (OpenSpec.ofChange fnTurnSpec)

/-- ITS FALSE NEIGHBOUR: 'it returns false'. Refute it at one input. -/
def fnTurnWrong : ChangeSpec := { name := "fnTurn", fn := fun _ => fun
  | [d1, d2] => { results := [.lit (.bool false)], args := [d1, d2] }
  | _ => none }
def FnTurnWrongFalsely : Prop := fnTurnRow.holds Tryz.pinned (OpenSpec.ofChange fnTurnWrong)

/-- 'laws.FnExactMeanFirst': WHATEVER THE INPUT: true; the input reads as it did. -/
def fnExactMeanFirstSpec : ChangeSpec := { name := "fnExactMeanFirst", fn := fun _ => fun
  | [d1, d2, d3] => { results := [.lit (.bool true)], args := [d1, d2, d3] }
  | _ => none }
def fnExactMeanFirstRow : OpenClaim := { program := "ytdhlbpgjcfdofaagreat", sum := "7a164d9d937cedcf28287dcbf6e8c83f9b4ea029b67f043270a98abaa1748082", func := "loop.example/bellman/laws.FnExactMeanFirst", spec := "fnExactMeanFirst", inPlace := ["slices.overlaps[loop.example/bellman/impl.Occ]"], unfollowed := true, recurses := true, loops := true, apart := false }
def FnExactMeanFirstSaid : Prop := fnExactMeanFirstRow.holds Tryz.pinned (OpenSpec.ofChange fnExactMeanFirstSpec)

/-- ITS FALSE NEIGHBOUR: 'it returns false'. Refute it at one input. -/
def fnExactMeanFirstWrong : ChangeSpec := { name := "fnExactMeanFirst", fn := fun _ => fun
  | [d1, d2, d3] => { results := [.lit (.bool false)], args := [d1, d2, d3] }
  | _ => none }
def FnExactMeanFirstWrongFalsely : Prop := fnExactMeanFirstRow.holds Tryz.pinned (OpenSpec.ofChange fnExactMeanFirstWrong)

/-- 'laws.FnMeanEnds': WHATEVER THE INPUT: true; the input reads as it did. -/
def fnMeanEndsSpec : ChangeSpec := { name := "fnMeanEnds", fn := fun _ => fun
  | [d] => { results := [.lit (.bool true)], args := [d] }
  | _ => none }
def fnMeanEndsRow : OpenClaim := { program := "ytdhlbpgjcfdofaagreat", sum := "7a164d9d937cedcf28287dcbf6e8c83f9b4ea029b67f043270a98abaa1748082", func := "loop.example/bellman/laws.FnMeanEnds", spec := "fnMeanEnds", inPlace := ["slices.overlaps[loop.example/bellman/impl.Occ]"], unfollowed := true, recurses := true, apart := false }
def FnMeanEndsSaid : Prop := fnMeanEndsRow.holds Tryz.pinned (OpenSpec.ofChange fnMeanEndsSpec)

/-- ITS FALSE NEIGHBOUR: 'it returns false'. Refute it at one input. -/
def fnMeanEndsWrong : ChangeSpec := { name := "fnMeanEnds", fn := fun _ => fun
  | [d] => { results := [.lit (.bool false)], args := [d] }
  | _ => none }
def FnMeanEndsWrongFalsely : Prop := fnMeanEndsRow.holds Tryz.pinned (OpenSpec.ofChange fnMeanEndsWrong)

/-- 'laws.FnMeanOr': WHATEVER THE INPUT: true; the input reads as it did. -/
def fnMeanOrSpec : ChangeSpec := { name := "fnMeanOr", fn := fun _ => fun
  | [d1, d2] => { results := [.lit (.bool true)], args := [d1, d2] }
  | _ => none }
def fnMeanOrRow : OpenClaim := { program := "ytdhlbpgjcfdofaagreat", sum := "7a164d9d937cedcf28287dcbf6e8c83f9b4ea029b67f043270a98abaa1748082", func := "loop.example/bellman/laws.FnMeanOr", spec := "fnMeanOr", inPlace := ["slices.overlaps[loop.example/bellman/impl.Occ]"], unfollowed := true, recurses := true, apart := false }
def FnMeanOrSaid : Prop := fnMeanOrRow.holds Tryz.pinned (OpenSpec.ofChange fnMeanOrSpec)

/-- ITS FALSE NEIGHBOUR: 'it returns false'. Refute it at one input. -/
def fnMeanOrWrong : ChangeSpec := { name := "fnMeanOr", fn := fun _ => fun
  | [d1, d2] => { results := [.lit (.bool false)], args := [d1, d2] }
  | _ => none }
def FnMeanOrWrongFalsely : Prop := fnMeanOrRow.holds Tryz.pinned (OpenSpec.ofChange fnMeanOrWrong)

/-- 'laws.FnMeanPlus': WHATEVER THE INPUT: true; the input reads as it did. -/
def fnMeanPlusSpec : ChangeSpec := { name := "fnMeanPlus", fn := fun _ => fun
  | [d] => { results := [.lit (.bool true)], args := [d] }
  | _ => none }
def fnMeanPlusRow : OpenClaim := { program := "ytdhlbpgjcfdofaagreat", sum := "7a164d9d937cedcf28287dcbf6e8c83f9b4ea029b67f043270a98abaa1748082", func := "loop.example/bellman/laws.FnMeanPlus", spec := "fnMeanPlus", inPlace := ["slices.overlaps[loop.example/bellman/impl.Occ]"], unfollowed := true, recurses := true, apart := false }
def FnMeanPlusSaid : Prop := fnMeanPlusRow.holds Tryz.pinned (OpenSpec.ofChange fnMeanPlusSpec)

/-- ITS FALSE NEIGHBOUR: 'it returns false'. Refute it at one input. -/
def fnMeanPlusWrong : ChangeSpec := { name := "fnMeanPlus", fn := fun _ => fun
  | [d] => { results := [.lit (.bool false)], args := [d] }
  | _ => none }
def FnMeanPlusWrongFalsely : Prop := fnMeanPlusRow.holds Tryz.pinned (OpenSpec.ofChange fnMeanPlusWrong)

/-- 'laws.FnMeanSum': WHATEVER THE INPUT: true; the input reads as it did. -/
def fnMeanSumSpec : ChangeSpec := { name := "fnMeanSum", fn := fun _ => fun
  | [d1, d2] => { results := [.lit (.bool true)], args := [d1, d2] }
  | _ => none }
def fnMeanSumRow : OpenClaim := { program := "ytdhlbpgjcfdofaagreat", sum := "7a164d9d937cedcf28287dcbf6e8c83f9b4ea029b67f043270a98abaa1748082", func := "loop.example/bellman/laws.FnMeanSum", spec := "fnMeanSum", inPlace := ["slices.overlaps[loop.example/bellman/impl.Occ]"], unfollowed := true, recurses := true, apart := false }
def FnMeanSumSaid : Prop := fnMeanSumRow.holds Tryz.pinned (OpenSpec.ofChange fnMeanSumSpec)

/-- ITS FALSE NEIGHBOUR: 'it returns false'. Refute it at one input. -/
def fnMeanSumWrong : ChangeSpec := { name := "fnMeanSum", fn := fun _ => fun
  | [d1, d2] => { results := [.lit (.bool false)], args := [d1, d2] }
  | _ => none }
def FnMeanSumWrongFalsely : Prop := fnMeanSumRow.holds Tryz.pinned (OpenSpec.ofChange fnMeanSumWrong)

/-- 'laws.FnMeanWays': WHATEVER THE INPUT: true; the input reads as it did. -/
def fnMeanWaysSpec : ChangeSpec := { name := "fnMeanWays", fn := fun _ => fun
  | [d] => { results := [.lit (.bool true)], args := [d] }
  | _ => none }
def fnMeanWaysRow : OpenClaim := { program := "ytdhlbpgjcfdofaagreat", sum := "7a164d9d937cedcf28287dcbf6e8c83f9b4ea029b67f043270a98abaa1748082", func := "loop.example/bellman/laws.FnMeanWays", spec := "fnMeanWays", inPlace := ["slices.overlaps[loop.example/bellman/impl.Occ]"], unfollowed := true, recurses := true, apart := false }
def FnMeanWaysSaid : Prop := fnMeanWaysRow.holds Tryz.pinned (OpenSpec.ofChange fnMeanWaysSpec)

/-- ITS FALSE NEIGHBOUR: 'it returns false'. Refute it at one input. -/
def fnMeanWaysWrong : ChangeSpec := { name := "fnMeanWays", fn := fun _ => fun
  | [d] => { results := [.lit (.bool false)], args := [d] }
  | _ => none }
def FnMeanWaysWrongFalsely : Prop := fnMeanWaysRow.holds Tryz.pinned (OpenSpec.ofChange fnMeanWaysWrong)

/-- 'laws.FnMeanIds': WHATEVER THE INPUT: true; the input reads as it did. -/
def fnMeanIdsSpec : ChangeSpec := { name := "fnMeanIds", fn := fun _ => fun
  | [d] => { results := [.lit (.bool true)], args := [d] }
  | _ => none }
def fnMeanIdsRow : OpenClaim := { program := "ytdhlbpgjcfdofaagreat", sum := "7a164d9d937cedcf28287dcbf6e8c83f9b4ea029b67f043270a98abaa1748082", func := "loop.example/bellman/laws.FnMeanIds", spec := "fnMeanIds", inPlace := ["slices.overlaps[loop.example/bellman/impl.Occ]"], unfollowed := true, recurses := true, apart := false }
def FnMeanIdsSaid : Prop := fnMeanIdsRow.holds Tryz.pinned (OpenSpec.ofChange fnMeanIdsSpec)

/-- ITS FALSE NEIGHBOUR: 'it returns false'. Refute it at one input. -/
def fnMeanIdsWrong : ChangeSpec := { name := "fnMeanIds", fn := fun _ => fun
  | [d] => { results := [.lit (.bool false)], args := [d] }
  | _ => none }
def FnMeanIdsWrongFalsely : Prop := fnMeanIdsRow.holds Tryz.pinned (OpenSpec.ofChange fnMeanIdsWrong)

/-- 'laws.FnExactMeanUsed': WHATEVER THE INPUT: true; the input reads as it did. -/
def fnExactMeanUsedSpec : ChangeSpec := { name := "fnExactMeanUsed", fn := fun _ => fun
  | [d1, d2, d3] => { results := [.lit (.bool true)], args := [d1, d2, d3] }
  | _ => none }
def fnExactMeanUsedRow : OpenClaim := { program := "ytdhlbpgjcfdofaagreat", sum := "7a164d9d937cedcf28287dcbf6e8c83f9b4ea029b67f043270a98abaa1748082", func := "loop.example/bellman/laws.FnExactMeanUsed", spec := "fnExactMeanUsed", inPlace := ["slices.overlaps[loop.example/bellman/impl.Occ]"], unfollowed := true, recurses := true, loops := true, apart := false }
def FnExactMeanUsedSaid : Prop := fnExactMeanUsedRow.holds Tryz.pinned (OpenSpec.ofChange fnExactMeanUsedSpec)

/-- ITS FALSE NEIGHBOUR: 'it returns false'. Refute it at one input. -/
def fnExactMeanUsedWrong : ChangeSpec := { name := "fnExactMeanUsed", fn := fun _ => fun
  | [d1, d2, d3] => { results := [.lit (.bool false)], args := [d1, d2, d3] }
  | _ => none }
def FnExactMeanUsedWrongFalsely : Prop := fnExactMeanUsedRow.holds Tryz.pinned (OpenSpec.ofChange fnExactMeanUsedWrong)

/-- 'laws.FnMeanAt': WHATEVER THE INPUT: true; the input reads as it did. -/
def fnMeanAtSpec : ChangeSpec := { name := "fnMeanAt", fn := fun _ => fun
  | [d] => { results := [.lit (.bool true)], args := [d] }
  | _ => none }
def fnMeanAtRow : OpenClaim := { program := "ytdhlbpgjcfdofaagreat", sum := "7a164d9d937cedcf28287dcbf6e8c83f9b4ea029b67f043270a98abaa1748082", func := "loop.example/bellman/laws.FnMeanAt", spec := "fnMeanAt", inPlace := ["slices.overlaps[loop.example/bellman/impl.Occ]"], unfollowed := true, recurses := true, apart := false }
def FnMeanAtSaid : Prop := fnMeanAtRow.holds Tryz.pinned (OpenSpec.ofChange fnMeanAtSpec)

/-- ITS FALSE NEIGHBOUR: 'it returns false'. Refute it at one input. -/
def fnMeanAtWrong : ChangeSpec := { name := "fnMeanAt", fn := fun _ => fun
  | [d] => { results := [.lit (.bool false)], args := [d] }
  | _ => none }
def FnMeanAtWrongFalsely : Prop := fnMeanAtRow.holds Tryz.pinned (OpenSpec.ofChange fnMeanAtWrong)

/-- 'laws.FnExactMeanOf': WHATEVER THE INPUT: true; the input reads as it did. -/
def fnExactMeanOfSpec : ChangeSpec := { name := "fnExactMeanOf", fn := fun _ => fun
  | [d1, d2, d3] => { results := [.lit (.bool true)], args := [d1, d2, d3] }
  | _ => none }
def fnExactMeanOfRow : OpenClaim := { program := "ytdhlbpgjcfdofaagreat", sum := "7a164d9d937cedcf28287dcbf6e8c83f9b4ea029b67f043270a98abaa1748082", func := "loop.example/bellman/laws.FnExactMeanOf", spec := "fnExactMeanOf", inPlace := ["slices.overlaps[loop.example/bellman/impl.Occ]"], unfollowed := true, recurses := true, loops := true, apart := false }
def FnExactMeanOfSaid : Prop := fnExactMeanOfRow.holds Tryz.pinned (OpenSpec.ofChange fnExactMeanOfSpec)

/-- ITS FALSE NEIGHBOUR: 'it returns false'. Refute it at one input. -/
def fnExactMeanOfWrong : ChangeSpec := { name := "fnExactMeanOf", fn := fun _ => fun
  | [d1, d2, d3] => { results := [.lit (.bool false)], args := [d1, d2, d3] }
  | _ => none }
def FnExactMeanOfWrongFalsely : Prop := fnExactMeanOfRow.holds Tryz.pinned (OpenSpec.ofChange fnExactMeanOfWrong)

/-- 'laws.FnExactMeanAt': WHATEVER THE INPUT: true; the input reads as it did. -/
def fnExactMeanAtSpec : ChangeSpec := { name := "fnExactMeanAt", fn := fun _ => fun
  | [d1, d2, d3, d4] => { results := [.lit (.bool true)], args := [d1, d2, d3, d4] }
  | _ => none }
def fnExactMeanAtRow : OpenClaim := { program := "ytdhlbpgjcfdofaagreat", sum := "7a164d9d937cedcf28287dcbf6e8c83f9b4ea029b67f043270a98abaa1748082", func := "loop.example/bellman/laws.FnExactMeanAt", spec := "fnExactMeanAt", inPlace := ["slices.overlaps[loop.example/bellman/impl.Occ]"], unfollowed := true, recurses := true, loops := true, apart := false }
def FnExactMeanAtSaid : Prop := fnExactMeanAtRow.holds Tryz.pinned (OpenSpec.ofChange fnExactMeanAtSpec)

/-- ITS FALSE NEIGHBOUR: 'it returns false'. Refute it at one input. -/
def fnExactMeanAtWrong : ChangeSpec := { name := "fnExactMeanAt", fn := fun _ => fun
  | [d1, d2, d3, d4] => { results := [.lit (.bool false)], args := [d1, d2, d3, d4] }
  | _ => none }
def FnExactMeanAtWrongFalsely : Prop := fnExactMeanAtRow.holds Tryz.pinned (OpenSpec.ofChange fnExactMeanAtWrong)

/- THE SECOND FORM. 'bulk': how many values and letters a reading holds, each counted each time it is reached (what is shared counts as often as it is met; a slice's spare places count too). A statement '..UptoSaid' is the law's where the arguments, and the package variables that the reading takes, are together of bulk at most 1048576: NARROWER than '..Said'. Prove '..Said' where nothing that the law and all that it calls make is longer than what came in: it says more and counts as full. Else prove '..UptoSaid'. A law counts once. -/
mutual
def uptoBulk {H : Type} : DataW H → Nat
  | .lit (.string bytes) => bytes.length + 1
  | .lit _ => 1
  | .nil => 1
  | .ptr d => uptoBulk d + 1
  | .slice elems spare => uptoBulkAll elems + uptoBulkAll spare + 1
  | .agg parts => uptoBulkAll parts + 1
  | .iface _ d => uptoBulk d + 1
  | .map entries => uptoBulkEntries entries + 1
  | .held _ => 1
def uptoBulkAll {H : Type} : List (DataW H) → Nat
  | [] => 0
  | d :: r => uptoBulk d + uptoBulkAll r
def uptoBulkEntries {H : Type} : List (Lit × DataW H) → Nat
  | [] => 0
  | x :: r => uptoBulkEntry x + uptoBulkEntries r
def uptoBulkEntry {H : Type} : Lit × DataW H → Nat
  | (.string bytes, d) => bytes.length + uptoBulk d + 1
  | (_, d) => uptoBulk d + 1
 end
def uptoSmall : (H : Type) → List (DataW H) → Bool := fun _ ds => decide (uptoBulkAll ds ≤ 1048576)
def OpenSpec.upto (s : _root_.Go.ChangeSpec) : _root_.Go.OpenSpec := { _root_.Go.OpenSpec.ofChange s with cond := some uptoSmall }

/-- 'laws.FnTurn', WHERE WHAT IT READS IS OF BULK AT MOST 1048576: true; the input reads as it did. -/
def fnTurnUptoRow : OpenClaim := { program := "ytdhlbpgjcfdofaagreat", sum := "7a164d9d937cedcf28287dcbf6e8c83f9b4ea029b67f043270a98abaa1748082", func := "loop.example/bellman/laws.FnTurn", spec := "fnTurn", inPlace := ["slices.overlaps[loop.example/bellman/impl.Occ]"], unfollowed := true, recurses := true, apart := false, narrowed := true }
def FnTurnUptoSaid : Prop := fnTurnUptoRow.holds Tryz.pinned (OpenSpec.upto fnTurnSpec)

/-- 'laws.FnExactMeanFirst', WHERE WHAT IT READS IS OF BULK AT MOST 1048576: true; the input reads as it did. -/
def fnExactMeanFirstUptoRow : OpenClaim := { program := "ytdhlbpgjcfdofaagreat", sum := "7a164d9d937cedcf28287dcbf6e8c83f9b4ea029b67f043270a98abaa1748082", func := "loop.example/bellman/laws.FnExactMeanFirst", spec := "fnExactMeanFirst", inPlace := ["slices.overlaps[loop.example/bellman/impl.Occ]"], unfollowed := true, recurses := true, loops := true, apart := false, narrowed := true }
def FnExactMeanFirstUptoSaid : Prop := fnExactMeanFirstUptoRow.holds Tryz.pinned (OpenSpec.upto fnExactMeanFirstSpec)

/-- 'laws.FnMeanEnds', WHERE WHAT IT READS IS OF BULK AT MOST 1048576: true; the input reads as it did. -/
def fnMeanEndsUptoRow : OpenClaim := { program := "ytdhlbpgjcfdofaagreat", sum := "7a164d9d937cedcf28287dcbf6e8c83f9b4ea029b67f043270a98abaa1748082", func := "loop.example/bellman/laws.FnMeanEnds", spec := "fnMeanEnds", inPlace := ["slices.overlaps[loop.example/bellman/impl.Occ]"], unfollowed := true, recurses := true, apart := false, narrowed := true }
def FnMeanEndsUptoSaid : Prop := fnMeanEndsUptoRow.holds Tryz.pinned (OpenSpec.upto fnMeanEndsSpec)

/-- 'laws.FnMeanOr', WHERE WHAT IT READS IS OF BULK AT MOST 1048576: true; the input reads as it did. -/
def fnMeanOrUptoRow : OpenClaim := { program := "ytdhlbpgjcfdofaagreat", sum := "7a164d9d937cedcf28287dcbf6e8c83f9b4ea029b67f043270a98abaa1748082", func := "loop.example/bellman/laws.FnMeanOr", spec := "fnMeanOr", inPlace := ["slices.overlaps[loop.example/bellman/impl.Occ]"], unfollowed := true, recurses := true, apart := false, narrowed := true }
def FnMeanOrUptoSaid : Prop := fnMeanOrUptoRow.holds Tryz.pinned (OpenSpec.upto fnMeanOrSpec)

/-- 'laws.FnMeanPlus', WHERE WHAT IT READS IS OF BULK AT MOST 1048576: true; the input reads as it did. -/
def fnMeanPlusUptoRow : OpenClaim := { program := "ytdhlbpgjcfdofaagreat", sum := "7a164d9d937cedcf28287dcbf6e8c83f9b4ea029b67f043270a98abaa1748082", func := "loop.example/bellman/laws.FnMeanPlus", spec := "fnMeanPlus", inPlace := ["slices.overlaps[loop.example/bellman/impl.Occ]"], unfollowed := true, recurses := true, apart := false, narrowed := true }
def FnMeanPlusUptoSaid : Prop := fnMeanPlusUptoRow.holds Tryz.pinned (OpenSpec.upto fnMeanPlusSpec)

/-- 'laws.FnMeanSum', WHERE WHAT IT READS IS OF BULK AT MOST 1048576: true; the input reads as it did. -/
def fnMeanSumUptoRow : OpenClaim := { program := "ytdhlbpgjcfdofaagreat", sum := "7a164d9d937cedcf28287dcbf6e8c83f9b4ea029b67f043270a98abaa1748082", func := "loop.example/bellman/laws.FnMeanSum", spec := "fnMeanSum", inPlace := ["slices.overlaps[loop.example/bellman/impl.Occ]"], unfollowed := true, recurses := true, apart := false, narrowed := true }
def FnMeanSumUptoSaid : Prop := fnMeanSumUptoRow.holds Tryz.pinned (OpenSpec.upto fnMeanSumSpec)

/-- 'laws.FnMeanWays', WHERE WHAT IT READS IS OF BULK AT MOST 1048576: true; the input reads as it did. -/
def fnMeanWaysUptoRow : OpenClaim := { program := "ytdhlbpgjcfdofaagreat", sum := "7a164d9d937cedcf28287dcbf6e8c83f9b4ea029b67f043270a98abaa1748082", func := "loop.example/bellman/laws.FnMeanWays", spec := "fnMeanWays", inPlace := ["slices.overlaps[loop.example/bellman/impl.Occ]"], unfollowed := true, recurses := true, apart := false, narrowed := true }
def FnMeanWaysUptoSaid : Prop := fnMeanWaysUptoRow.holds Tryz.pinned (OpenSpec.upto fnMeanWaysSpec)

/-- 'laws.FnMeanIds', WHERE WHAT IT READS IS OF BULK AT MOST 1048576: true; the input reads as it did. -/
def fnMeanIdsUptoRow : OpenClaim := { program := "ytdhlbpgjcfdofaagreat", sum := "7a164d9d937cedcf28287dcbf6e8c83f9b4ea029b67f043270a98abaa1748082", func := "loop.example/bellman/laws.FnMeanIds", spec := "fnMeanIds", inPlace := ["slices.overlaps[loop.example/bellman/impl.Occ]"], unfollowed := true, recurses := true, apart := false, narrowed := true }
def FnMeanIdsUptoSaid : Prop := fnMeanIdsUptoRow.holds Tryz.pinned (OpenSpec.upto fnMeanIdsSpec)

/-- 'laws.FnExactMeanUsed', WHERE WHAT IT READS IS OF BULK AT MOST 1048576: true; the input reads as it did. -/
def fnExactMeanUsedUptoRow : OpenClaim := { program := "ytdhlbpgjcfdofaagreat", sum := "7a164d9d937cedcf28287dcbf6e8c83f9b4ea029b67f043270a98abaa1748082", func := "loop.example/bellman/laws.FnExactMeanUsed", spec := "fnExactMeanUsed", inPlace := ["slices.overlaps[loop.example/bellman/impl.Occ]"], unfollowed := true, recurses := true, loops := true, apart := false, narrowed := true }
def FnExactMeanUsedUptoSaid : Prop := fnExactMeanUsedUptoRow.holds Tryz.pinned (OpenSpec.upto fnExactMeanUsedSpec)

/-- 'laws.FnMeanAt', WHERE WHAT IT READS IS OF BULK AT MOST 1048576: true; the input reads as it did. -/
def fnMeanAtUptoRow : OpenClaim := { program := "ytdhlbpgjcfdofaagreat", sum := "7a164d9d937cedcf28287dcbf6e8c83f9b4ea029b67f043270a98abaa1748082", func := "loop.example/bellman/laws.FnMeanAt", spec := "fnMeanAt", inPlace := ["slices.overlaps[loop.example/bellman/impl.Occ]"], unfollowed := true, recurses := true, apart := false, narrowed := true }
def FnMeanAtUptoSaid : Prop := fnMeanAtUptoRow.holds Tryz.pinned (OpenSpec.upto fnMeanAtSpec)

/-- 'laws.FnExactMeanOf', WHERE WHAT IT READS IS OF BULK AT MOST 1048576: true; the input reads as it did. -/
def fnExactMeanOfUptoRow : OpenClaim := { program := "ytdhlbpgjcfdofaagreat", sum := "7a164d9d937cedcf28287dcbf6e8c83f9b4ea029b67f043270a98abaa1748082", func := "loop.example/bellman/laws.FnExactMeanOf", spec := "fnExactMeanOf", inPlace := ["slices.overlaps[loop.example/bellman/impl.Occ]"], unfollowed := true, recurses := true, loops := true, apart := false, narrowed := true }
def FnExactMeanOfUptoSaid : Prop := fnExactMeanOfUptoRow.holds Tryz.pinned (OpenSpec.upto fnExactMeanOfSpec)

/-- 'laws.FnExactMeanAt', WHERE WHAT IT READS IS OF BULK AT MOST 1048576: true; the input reads as it did. -/
def fnExactMeanAtUptoRow : OpenClaim := { program := "ytdhlbpgjcfdofaagreat", sum := "7a164d9d937cedcf28287dcbf6e8c83f9b4ea029b67f043270a98abaa1748082", func := "loop.example/bellman/laws.FnExactMeanAt", spec := "fnExactMeanAt", inPlace := ["slices.overlaps[loop.example/bellman/impl.Occ]"], unfollowed := true, recurses := true, loops := true, apart := false, narrowed := true }
def FnExactMeanAtUptoSaid : Prop := fnExactMeanAtUptoRow.holds Tryz.pinned (OpenSpec.upto fnExactMeanAtSpec)

end Rows
end Go.Proofs.YtdhlbpgjcfdofaaGreat
