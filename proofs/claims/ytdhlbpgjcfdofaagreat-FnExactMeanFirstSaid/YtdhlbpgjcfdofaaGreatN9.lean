/- A conjunction at a point in time, in the reference's words; a sequence whole. -/
import Derived.Test.YtdhlbpgjcfdofaaGreatN8
namespace Go.Proofs.YtdhlbpgjcfdofaaGreat
open Go Go.Vm
set_option linter.unusedVariables false
theorem spec_and_eq (k : Nat) (hk : 1000000000000 ≤ k) (mode : Int) (hmo : 0 ≤ mode ∧ mode ≤ 4) (p : GPair) (left right : List GOcc) (m : Nat) (hm : m ≤ 20000) (h1 : Ok m p.Left) (h2 : Ok m p.Right) (hl : Ids left) (hr : Ids right) (hn : left.length + right.length ≤ 100) :
    spec_l4And.f k mode p left right = some (⟨(andM mode p.Left p.Right left right).1, (andM mode p.Left p.Right left right).2.1⟩, (andM mode p.Left p.Right left right).2.2) := by
  have big : ∀ i, i ≤ 100 → i * (m + 100) ≤ 100 * 20100 := fun i hi => Nat.mul_le_mul hi (by omega)
  have a1 := loop_ret0 (fun s : List GOcc × List GOcc × List GOcc => s) left (fun s e => ((spec_l4One.f k mode s.2.1 s.1 e).bind fun x36 => ((spec_l4Merge.f k s.2.2 x36.2.2).bind fun x39 => some (x36.2.1, x36.1, x39)))) (fun n s i => spec_l4And.l0 k mode left n s.1 s.2.1 s.2.2 i) (halfM mode) (AndInv m)
    (fun n s => by rw [spec_l4And.l0, if_neg (by omega)])
    (fun n s i h => by
      rw [spec_l4And.l0, if_pos (by omega), req_pos (by omega), Int.toNat_natCast, List.getElem?_eq_getElem h]
      simp only [Option.bind_some, Option.bind_assoc]
      rw [wrS i (by omega)])
    (fun i s h hI => ⟨spec_half k hk mode hmo s.1 s.2.1 s.2.2 _ (m + i) (m + i) _ (by omega) (by omega) (by have := big i (by omega); omega) hI.1 hI.2.1 hI.2.2 (hl _ (List.getElem_mem h)), hI.half (by omega) (hl _ (List.getElem_mem h))⟩)
    k (p.Left, p.Right, []) (by omega) ⟨h1, h2, by simpa using Ok.nil 0⟩
  have a2 := loop_ret0 (fun s : List GOcc × List GOcc × List GOcc => s) right (fun s e => ((spec_l4One.f k mode s.1 s.2.1 e).bind fun x36 => ((spec_l4Merge.f k s.2.2 x36.2.2).bind fun x39 => some (x36.1, x36.2.1, x39)))) (fun n s i => spec_l4And.l1 k mode right n s.1 s.2.1 s.2.2 i) (otherM mode) (fun i => AndInv m (left.length + i))
    (fun n s => by rw [spec_l4And.l1, if_neg (by omega)])
    (fun n s i h => by
      rw [spec_l4And.l1, if_pos (by omega), req_pos (by omega), Int.toNat_natCast, List.getElem?_eq_getElem h]
      simp only [Option.bind_some, Option.bind_assoc]
      rw [wrS i (by omega)])
    (fun i s h hI => by
      have q := spec_half k hk mode hmo s.2.1 s.1 s.2.2 _ (m + (left.length + i)) (m + (left.length + i)) _ (by omega) (by omega) (by have := big (left.length + i) (by omega); omega) hI.2.1 hI.1 hI.2.2 (hr _ (List.getElem_mem h))
      refine ⟨?_, hI.other (by omega) (hr _ (List.getElem_mem h))⟩
      have q2 := congrArg (Option.map fun t : List GOcc × List GOcc × List GOcc => (t.2.1, t.1, t.2.2)) q
      simp only [Option.map_bind, Option.map_some, Function.comp_def] at q2
      exact q2)
    k (left.foldl (halfM mode) (p.Left, p.Right, [])) (by omega) a1.2
  unfold spec_l4And.f
  rw [a1.1]
  simp only [Option.bind_some]
  rw [a2.1]
  rfl
def seqM (mode : Int) (l left right : List GOcc) : List GOcc × List GOcc := (mergeM (right.foldl (oneM mode before) (l, [])).1 left, (right.foldl (oneM mode before) (l, [])).2)
theorem seq_eq (k : Nat) (hk : 1000000000000 ≤ k) (mode : Int) (p : GPair) (left right : List GOcc) (m : Nat) (hm : m ≤ 20000) (h1 : Ok m p.Left) (hl : Ids left) (hr : Ids right) (hn : left.length ≤ 100) (hn2 : right.length ≤ 100) :
    impl_Pair_seq.f k p mode left right = some (⟨(seqM mode p.Left left right).1, p.Right⟩, (seqM mode p.Left left right).2) ∧ Ok (m + left.length) (seqM mode p.Left left right).1 ∧ Ok (100 * m) (seqM mode p.Left left right).2 := by
  obtain ⟨a, b, c⟩ := seq_loop k hk mode right p.Left m 100 hm hn2 (by omega) h1 hr
  have := b.2.2
  refine ⟨?_, ⟨asc_mergeM b.1, ids_merge b.2.1 hl, by have := length_mergeM left (right.foldl (oneM mode before) (p.Left, [])).1; show (mergeM _ _).length ≤ _; omega⟩, c⟩
  unfold impl_Pair_seq.f
  rw [a]
  simp only [Option.bind_some]
  rw [impl_putAll_eq k hk _ _ (by omega) b.2.1.few hl.few b.1]
  rfl
theorem spec_seq_eq (k : Nat) (hk : 1000000000000 ≤ k) (mode : Int) (hmo : 0 ≤ mode ∧ mode ≤ 4) (p : GPair) (left right : List GOcc) (m : Nat) (hm : m ≤ 20000) (h1 : Ok m p.Left) (hl : Ids left) (hr : Ids right) (hn : left.length ≤ 100) (hn2 : right.length ≤ 100) :
    spec_l4Seq.f k mode p left right = some (⟨(seqM mode p.Left left right).1, p.Right⟩, (seqM mode p.Left left right).2) := by
  obtain ⟨_, b, _⟩ := seq_loop k hk mode right p.Left m 100 hm hn2 (by omega) h1 hr
  have := b.2.2
  unfold spec_l4Seq.f
  rw [spec_seq_loop k hk mode hmo right p.Left m 100 hm hn2 (by omega) h1 hr]
  simp only [Option.bind_some]
  rw [spec_merge_eq k hk _ _ (by omega) b.2.1.few hl.few]
  rfl
end Go.Proofs.YtdhlbpgjcfdofaaGreat
