/- Sorting few items: SortStableFunc and sorter.Sort of fewer than twenty. -/
import Derived.Test.YtjgmkimekipgmaaGreatDoorIn
namespace Go.Proofs.YtjgmkimekipgmaaGreatDoor.G
open Go.RowKit Go.Sort Go.Proofs.YtjgmkimekipgmaaGreatDoorW.PrintWords Go.Proofs.YtjgmkimekipgmaaGreatDoorW.PrintLast Go.Proofs.YtjgmkimekipgmaaGreatDoorW.PrintMore
set_option linter.unusedVariables false
set_option linter.unusedSimpArgs false

set_option maxRecDepth 100000 in
set_option maxHeartbeats 4000000 in
theorem stable_short (g cap N : Nat) (gf : Nat) (cb : Array Value) (cf : S44 → S44 → Int) (l : List S44) (w : World) (hg : g < w.heap.size) (h : Srt w g l w) (hN : l.length = N) (hl : N < 20) (hk : allK l) (hcmp : CmpOK w g N gf cb cf) :
    Calls Tryz.prog 64 #[.slice (some ⟨g, 0, none⟩) N cap, .int .i64 N, .func (.func gf) #[] cb] w fun e w' => e = .returned (.tuple #[]) ∧ Srt w g (insN cf l 0 (N - 0 - 1)) w' := by
  have HI := Aside0.mk (insertion_any g cap 0 N N gf cb cf l w hg h hN (by omega) (by omega) (by omega) hk hcmp)
  clear h hk hcmp hN
  have h1 : (N : Int) < 20 := by omega
  go_enter Tryz.func64, Tryz.ntmps64
  go_wp2
  go_loopg [7, 8] 0 (fun kq v7 v8 W => v7 = .int .i64 0 ∧ v8 = .int .i64 20 ∧ W = w)
  case atStart => exact ⟨rfl, rfl, rfl⟩
  case round =>
    obtain ⟨rfl, rfl, rfl⟩ := hrel
    go_wp2_with (go_at_call 68; refine HI.out.mono ?_; rintro e w1 ⟨rfl, hs⟩; have HS := Aside0.mk hs; clear hs)
    go_loopg [6, 7, 8, 9] 0 (fun kq v6 v7 v8 v9 W => v6 = .int .i64 20 ∧ W = w1)
    case atStart => exact ⟨rfl, rfl⟩
    case round =>
      obtain ⟨rfl, rfl⟩ := hrel
      go_wp2
      go_end0
      exact ⟨rfl, HS.out⟩
end Go.Proofs.YtjgmkimekipgmaaGreatDoor.G
