/- A sequence and a conjunction at a point in time: both programs give one answer. -/
import Derived.Test.YtdhlbpgjcfdofaaGreatN7
namespace Go.Proofs.YtdhlbpgjcfdofaaGreat
open Go Go.Vm
set_option linter.unusedVariables false
/-- one on the right of a conjunction: left, right, found -/
def otherM (mode : Int) (s : List GOcc × List GOcc × List GOcc) (o : GOcc) : List GOcc × List GOcc × List GOcc :=
  ((halfM mode (s.2.1, s.1, s.2.2) o).2.1, (halfM mode (s.2.1, s.1, s.2.2) o).1, (halfM mode (s.2.1, s.1, s.2.2) o).2.2)
/-- left and right have grown by no more than i, found by no more than i times both -/
def AndInv (m : Nat) (i : Nat) (s : List GOcc × List GOcc × List GOcc) : Prop := Ok (m + i) s.1 ∧ Ok (m + i) s.2.1 ∧ Ok (i * (m + 100)) s.2.2
theorem AndInv.half {m i : Nat} {mode : Int} {s : List GOcc × List GOcc × List GOcc} {o : GOcc} (h : AndInv m i s) (hi : i < 100) (ho : IdsOk o.Ids) : AndInv m (i + 1) (halfM mode s o) := by
  obtain ⟨a, b, c⟩ := halfM_ok (mode := mode) h.1 h.2.1 h.2.2 ho
  refine ⟨a, b.mono (by omega), c.mono ?_⟩
  rw [Nat.succ_mul]; omega
theorem AndInv.other {m i : Nat} {mode : Int} {s : List GOcc × List GOcc × List GOcc} {o : GOcc} (h : AndInv m i s) (hi : i < 100) (ho : IdsOk o.Ids) : AndInv m (i + 1) (otherM mode s o) := by
  obtain ⟨a, b, c⟩ := halfM_ok (mode := mode) (s := (s.2.1, s.1, s.2.2)) h.2.1 h.1 h.2.2 ho
  refine ⟨b.mono (by omega), a, c.mono ?_⟩
  rw [Nat.succ_mul]; omega
def andM (mode : Int) (l r left right : List GOcc) : List GOcc × List GOcc × List GOcc := right.foldl (otherM mode) (left.foldl (halfM mode) (l, r, []))
theorem and_eq (k : Nat) (hk : 1000000000000 ≤ k) (mode : Int) (p : GPair) (left right : List GOcc) (m : Nat) (hm : m ≤ 20000) (h1 : Ok m p.Left) (h2 : Ok m p.Right) (hl : Ids left) (hr : Ids right) (hn : left.length + right.length ≤ 100) :
    impl_Pair_and.f k p mode left right = some (⟨(andM mode p.Left p.Right left right).1, (andM mode p.Left p.Right left right).2.1⟩, (andM mode p.Left p.Right left right).2.2) ∧ AndInv m 100 (andM mode p.Left p.Right left right) := by
  have big : ∀ i, i ≤ 100 → i * (m + 100) ≤ 100 * 20100 := fun i hi => Nat.mul_le_mul hi (by omega)
  have a1 := loop_ret0 (fun s : List GOcc × List GOcc × List GOcc => s) left (fun s e => ((impl_combine.f k mode e s.2.1).bind fun x48 => ((impl_putAll.f k s.2.2 x48.1).bind fun x51 => ((impl_without.f k s.2.1 x48.2).bind fun x54 => ((impl_store.f k mode s.1 e ((x48.1.length : Int) == 0)).bind fun x57 => some (x57, x54, x51)))))) (fun n s i => impl_Pair_and.l0 k mode left n s.1 s.2.1 s.2.2 i) (halfM mode) (AndInv m)
    (fun n s => by rw [impl_Pair_and.l0, if_neg (by omega)])
    (fun n s i h => by
      rw [impl_Pair_and.l0, if_pos (by omega), req_pos (by omega), Int.toNat_natCast, List.getElem?_eq_getElem h]
      simp only [Option.bind_some, Option.bind_assoc]
      rw [wrS i (by omega)])
    (fun i s h hI => ⟨impl_half k hk mode s.1 s.2.1 s.2.2 _ (m + i) (m + i) _ (by omega) (by omega) (by have := big i (by omega); omega) hI.1 hI.2.1 hI.2.2 (hl _ (List.getElem_mem h)), hI.half (by omega) (hl _ (List.getElem_mem h))⟩)
    k (p.Left, p.Right, []) (by omega) ⟨h1, h2, by simpa using Ok.nil 0⟩
  have a2 := loop_ret0 (fun s : List GOcc × List GOcc × List GOcc => s) right (fun s e => ((impl_combine.f k mode e s.1).bind fun x48 => ((impl_putAll.f k s.2.2 x48.1).bind fun x51 => ((impl_without.f k s.1 x48.2).bind fun x54 => ((impl_store.f k mode s.2.1 e ((x48.1.length : Int) == 0)).bind fun x57 => some (x54, x57, x51)))))) (fun n s i => impl_Pair_and.l1 k mode right n s.1 s.2.1 s.2.2 i) (otherM mode) (fun i => AndInv m (left.length + i))
    (fun n s => by rw [impl_Pair_and.l1, if_neg (by omega)])
    (fun n s i h => by
      rw [impl_Pair_and.l1, if_pos (by omega), req_pos (by omega), Int.toNat_natCast, List.getElem?_eq_getElem h]
      simp only [Option.bind_some, Option.bind_assoc]
      rw [wrS i (by omega)])
    (fun i s h hI => by
      have q := impl_half k hk mode s.2.1 s.1 s.2.2 _ (m + (left.length + i)) (m + (left.length + i)) _ (by omega) (by omega) (by have := big (left.length + i) (by omega); omega) hI.2.1 hI.1 hI.2.2 (hr _ (List.getElem_mem h))
      refine ⟨?_, hI.other (by omega) (hr _ (List.getElem_mem h))⟩
      have q2 := congrArg (Option.map fun t : List GOcc × List GOcc × List GOcc => (t.2.1, t.1, t.2.2)) q
      simp only [Option.map_bind, Option.map_some, Function.comp_def] at q2
      exact q2)
    k (left.foldl (halfM mode) (p.Left, p.Right, [])) (by omega) a1.2
  refine ⟨?_, ?_⟩
  · unfold impl_Pair_and.f
    rw [a1.1]
    simp only [Option.bind_some]
    rw [a2.1]
    rfl
  · obtain ⟨x, y, z⟩ := a2.2
    exact ⟨x.mono (by omega), y.mono (by omega), z.mono (Nat.mul_le_mul_right _ (by omega))⟩
end Go.Proofs.YtdhlbpgjcfdofaaGreat
