/- Rows of items that are turned in place: the world while they are sorted. -/
import Derived.Test.YtjgmkimekipgmaaGreatDoorSi
import Derived.StillTailTactics
namespace Go.Proofs.YtjgmkimekipgmaaGreatDoor.G
open Go.RowKit Go.Sort Go.Proofs.YtjgmkimekipgmaaGreatDoorW.PrintWords Go.Proofs.YtjgmkimekipgmaaGreatDoorW.PrintLast Go.Proofs.YtjgmkimekipgmaaGreatDoorW.PrintMore
set_option linter.unusedVariables false
set_option linter.unusedSimpArgs false

/-- an item's cells -/
def icell (x : S44) : List Value := [.string x.f0, .bool x.f1.f0, .int .i64 x.f1.f1, .string x.f1.f2]
def icells (l : List S44) : Array Value := (l.flatMap icell).toArray
theorem icells_size (l : List S44) : (icells l).size = l.length * 4 := by
  unfold icells
  simp only [List.size_toArray]
  induction l with
  | nil => rfl
  | cons x l ih => simp only [List.flatMap_cons, List.length_append, ih, List.length_cons, icell, List.length_nil]; omega
theorem icells_at (l : List S44) (i j : Nat) (hi : i < l.length) (hj : j < 4) : (icells l)[i * 4 + j]? = (icell l[i])[j]? := by
  unfold icells
  rw [List.getElem?_toArray]
  induction l generalizing i with
  | nil => simp at hi
  | cons x l ih =>
    rw [List.flatMap_cons]
    rcases i with _ | i
    · rw [List.getElem?_append_left (by simp [icell]; omega)]
      simp
    · rw [List.getElem?_append_right (by simp [icell]; omega)]
      simp only [List.length_cons] at hi
      have := ih i (by omega)
      rw [show (icell x).length = 4 from rfl, show (i + 1) * 4 + j - 4 = i * 4 + j by omega, this]
      simp
theorem icells_set (l : List S44) (i : Nat) (y : S44) (hi : i < l.length) :
    ((((icells l).setIfInBounds (i * 4) (.string y.f0)).setIfInBounds (i * 4 + 1) (.bool y.f1.f0)).setIfInBounds (i * 4 + 2) (.int .i64 y.f1.f1)).setIfInBounds (i * 4 + 3) (.string y.f1.f2) = icells (l.set i y) := by
  unfold icells
  simp only [List.setIfInBounds_toArray]
  congr 1
  induction l generalizing i with
  | nil => simp at hi
  | cons x l ih =>
    rcases i with _ | i
    · simp [icell]
    · simp only [List.length_cons] at hi
      have := ih i (by omega)
      simp only [List.flatMap_cons, List.set_cons_succ]
      rw [← this]
      have hl : (icell x).length = 4 := rfl
      rw [List.set_append_right _ _ (by omega), List.set_append_right _ _ (by omega), List.set_append_right _ _ (by omega), List.set_append_right _ _ (by omega), hl]
      rw [show (i + 1) * 4 - 4 = i * 4 by omega, show (i + 1) * 4 + 1 - 4 = i * 4 + 1 by omega, show (i + 1) * 4 + 2 - 4 = i * 4 + 2 by omega, show (i + 1) * 4 + 3 - 4 = i * 4 + 3 by omega]

/-- the world while row g is turned: it holds l; all else that was there is as it was -/
structure Srt (W0 : World) (g : Nat) (l : List S44) (W : World) : Prop where
  os : W.os = W0.os
  tape : W.tape = W0.tape
  output : W.output = W0.output
  size : W0.heap.size ≤ W.heap.size
  block : ∀ k, k < W0.heap.size → k ≠ g → W.heap[k]? = W0.heap[k]?
  row : W.heap[g]? = some (.cells (icells l) 44 (0, 0))
namespace Srt
variable {W0 W W1 : World} {g : Nat} {l : List S44}
theorem start (h : W.heap[g]? = some (.cells (icells l) 44 (0, 0))) : Srt W g l W := ⟨rfl, rfl, rfl, Nat.le_refl _, fun _ _ _ => rfl, h⟩
theorem below (h : Srt W0 g l W) (hb : Below W.heap.size W W1) : Srt W0 g l W1 :=
  ⟨hb.os.trans h.os, hb.tape.trans h.tape, hb.output.trans h.output, Nat.le_trans h.size hb.size, fun k hk hg => (hb.block k (Nat.lt_of_lt_of_le hk h.size)).trans (h.block k hk hg), blk_below h.row hb⟩
theorem trans {l1 : List S44} (h : Srt W0 g l W) (h1 : Srt W g l1 W1) : Srt W0 g l1 W1 :=
  ⟨h1.os.trans h.os, h1.tape.trans h.tape, h1.output.trans h.output, Nat.le_trans h.size h1.size, fun k hk hg => (h1.block k (Nat.lt_of_lt_of_le hk h.size) hg).trans (h.block k hk hg), h1.row⟩
theorem drew (h : Srt W0 g l W) : Srt W0 g l W.drew := ⟨h.os, h.tape, h.output, h.size, h.block, h.row⟩
theorem item (h : Srt W0 g l W) (i : Nat) (hi : i < l.length) :
    W.cell? ⟨g, i * 4, none⟩ = some (.string l[i].f0) ∧ W.cell? ⟨g, i * 4 + 1, none⟩ = some (.bool l[i].f1.f0) ∧ W.cell? ⟨g, i * 4 + 2, none⟩ = some (.int .i64 l[i].f1.f1) ∧ W.cell? ⟨g, i * 4 + 3, none⟩ = some (.string l[i].f1.f2) :=
  ⟨(blk_cell h.row _).trans (icells_at l i 0 hi (by omega)), (blk_cell h.row _).trans (icells_at l i 1 hi (by omega)), (blk_cell h.row _).trans (icells_at l i 2 hi (by omega)), (blk_cell h.row _).trans (icells_at l i 3 hi (by omega))⟩
theorem free (h : Srt W0 g l W) (i : Nat) : W.frozen? ⟨g, i, none⟩ = false := blk_frozen h.row i
theorem put (h : Srt W0 g l W) (i : Nat) (hi : i < l.length) (y : S44) :
    Srt W0 g (l.set i y) ((((W.setCell ⟨g, i * 4, none⟩ (.string y.f0)).setCell ⟨g, i * 4 + 1, none⟩ (.bool y.f1.f0)).setCell ⟨g, i * 4 + 2, none⟩ (.int .i64 y.f1.f1)).setCell ⟨g, i * 4 + 3, none⟩ (.string y.f1.f2)) := by
  refine ⟨h.os, h.tape, h.output, by simpa using h.size, fun k hk hg => ?_, ?_⟩
  · rw [Below.heap_setCell _ _ _ k hg, Below.heap_setCell _ _ _ k hg, Below.heap_setCell _ _ _ k hg, Below.heap_setCell _ _ _ k hg]
    exact h.block k hk hg
  · rw [← icells_set l i y hi]
    exact blk_set (blk_set (blk_set (blk_set h.row _ _) _ _) _ _) _ _
end Srt
end Go.Proofs.YtjgmkimekipgmaaGreatDoor.G
