/- A buffer that is not there; a new buffer. -/
import Derived.Test.YtjgmkimekipgmaaGreatDoorSs
namespace Go.Proofs.YtjgmkimekipgmaaGreatDoor.G
open Go.RowKit Go.Sort Go.Proofs.YtjgmkimekipgmaaGreatDoorW.PrintWords Go.Proofs.YtjgmkimekipgmaaGreatDoorW.PrintLast Go.Proofs.YtjgmkimekipgmaaGreatDoorW.PrintMore
set_option linter.unusedVariables false
set_option linter.unusedSimpArgs false

set_option maxRecDepth 100000 in
theorem buffer_Add.nil (x : S44) (w : World) : Calls Tryz.prog 39 #[.pointer none, .agg #[.string x.f0, .bool x.f1.f0, .int .i64 x.f1.f1, .string x.f1.f2]] w fun e w' => e = .returned (.bool false) ∧ Below w.heap.size w w' := by
  go_enter Tryz.func39, Tryz.ntmps39
  go_wp2
  go_ret
  exact ⟨rfl, below_alloc (Below.refl _ _) _⟩
set_option maxRecDepth 100000 in
theorem buffer_Flush.nil (w : World) : Calls Tryz.prog 40 #[.pointer none] w fun e w' => e = .returned (.slice none 0 0) ∧ Below w.heap.size w w' := by
  go_enter Tryz.func40, Tryz.ntmps40
  go_wp2
  go_ret
  exact ⟨rfl, Below.refl _ _⟩
set_option maxRecDepth 100000 in
theorem buffer_Held.nil (w : World) : Calls Tryz.prog 41 #[.pointer none] w fun e w' => e = .returned (.int .i64 0) ∧ Below w.heap.size w w' := by
  go_enter Tryz.func41, Tryz.ntmps41
  go_wp2
  go_ret
  exact ⟨rfl, Below.refl _ _⟩
/-- the cells of a new buffer of a job -/
def JC.buf (j : JC) (most : Int) : Array Value := j.arr ++ #[.int .i64 most, .slice none 0 0, .int .i64 0, .slice none 0 0]
set_option maxRecDepth 100000 in
set_option maxHeartbeats 2000000 in
theorem sorter_New.ok (j : JC) (most : Int) (hm : 1 ≤ most) (w : World) : Calls Tryz.prog 44 #[.agg j.arr, .int .i64 most] w fun e w' => ∃ b, e = .returned (.tuple #[.pointer (some ⟨b, 0, none⟩), .int .i64 0]) ∧ w.heap.size ≤ b ∧ w'.heap[b]? = some (.cells (j.buf most) 111 (0, 0)) ∧ Below w.heap.size w w' := by
  obtain ⟨b0, ⟨A1, n1, c1⟩, ⟨A2, n2, c2⟩, ⟨A3, n3, c3⟩, n4, ⟨A5, n5, c5⟩, b6, n7, t8, b9, n10, down, num, n13⟩ := j
  simp only [JC.arr, JC.buf]
  have h1 : ¬ most < 1 := by omega
  go_enter Tryz.func44, Tryz.ntmps44
  go_wp2
  go_ret2
  exact ⟨_, rfl, by omega, blk_new2 _ _ _, below_alloc (below_alloc (Below.refl _ _) _) _⟩
set_option maxRecDepth 100000 in
set_option maxHeartbeats 2000000 in
theorem sorter_New.bad (j : JC) (most : Int) (hm : most < 1) (w : World) : Calls Tryz.prog 44 #[.agg j.arr, .int .i64 most] w fun e w' => e = .returned (.tuple #[.pointer none, .int .i64 1]) ∧ Below w.heap.size w w' := by
  obtain ⟨b0, ⟨A1, n1, c1⟩, ⟨A2, n2, c2⟩, ⟨A3, n3, c3⟩, n4, ⟨A5, n5, c5⟩, b6, n7, t8, b9, n10, down, num, n13⟩ := j
  simp only [JC.arr]
  go_enter Tryz.func44, Tryz.ntmps44
  go_wp2
  go_ret2
  exact ⟨rfl, below_alloc (Below.refl _ _) _⟩
end Go.Proofs.YtjgmkimekipgmaaGreatDoor.G
