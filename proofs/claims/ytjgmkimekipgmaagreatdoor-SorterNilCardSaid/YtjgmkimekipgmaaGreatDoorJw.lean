/- What a key writes: job.written. -/
import Derived.Test.YtjgmkimekipgmaaGreatDoorNw
namespace Go.Proofs.YtjgmkimekipgmaaGreatDoor.G
open Go.RowKit Go.Sort Go.Proofs.YtjgmkimekipgmaaGreatDoorW.PrintWords Go.Proofs.YtjgmkimekipgmaaGreatDoorW.PrintLast Go.Proofs.YtjgmkimekipgmaaGreatDoorW.PrintMore
set_option linter.unusedVariables false
set_option linter.unusedSimpArgs false

def clipS (s : ByteArray) : ByteArray := s.extract 0 (min s.size 1000)
theorem clip_size (s : ByteArray) : (clipS s).size = min s.size 1000 := by unfold clipS; simp
set_option maxRecDepth 100000 in
set_option maxHeartbeats 2000000 in
theorem value_Text.any (s : ByteArray) (w : World) (hs : s.size ≤ 9223372036854775807) : Calls Tryz.prog 79 #[.string s] w fun e w' => e = .returned (.agg #[.bool true, .int .i64 0, .string (clipS s)]) ∧ Below w.heap.size w w' := by
  have e : (min (s.size : Int) 1000).toNat = min s.size 1000 := by omega
  have HE := Aside0.mk e
  clear e
  go_enter Tryz.func79, Tryz.ntmps79
  go_wp2
  rw [HE.out]
  refine bodyPost_ret (v := .agg #[.bool true, .int .i64 0, .string (clipS s)]) ?_ rfl ⟨rfl, below_alloc (Below.refl _ _) _⟩
  simp [results, Tryz.results79, go_sem, clipS]

/-- the number that a key writes -/
def writS (s : ByteArray) : Int := numS (clipS s).data.toList
theorem C_val_blk {W : World} {g : Nat} {x : S24} {t : Nat} (h : W.heap[g]? = some (.cells #[.bool x.f0, .int .i64 x.f1, .string x.f2] t (0, 0))) : Kd.C k24 W (some ⟨g, 0, none⟩) [x].length [x] := by
  refine ⟨rfl, by simp, fun _ => ⟨_, rfl, fun j p hj => ?_⟩⟩
  rcases j with _ | j
  · simp at hj
    subst hj
    refine ⟨_, rfl, k24_mk W x, fun i u hu => ?_⟩
    rw [show (⟨g, 0, none⟩ : Addr).add (0 * k24.sz + i) = ⟨g, i, none⟩ from by rw [Nat.zero_mul, Nat.zero_add]; exact add_plain g i, blk_cell h]
    simpa using hu
  · simp at hj
set_option maxRecDepth 100000 in
set_option maxHeartbeats 4000000 in
theorem job_written.any (s : ByteArray) (w : World) (hs : s.size ≤ 9223372036854775807) : Calls Tryz.prog 71 #[.string s] w fun e w' => e = .returned (.int .i64 (writS s)) ∧ Below w.heap.size w w' := by
  obtain ⟨x, hx⟩ : ∃ x : S24, x = ⟨true, 0, clipS s⟩ := ⟨_, rfl⟩
  have hsz : (clipS s).size ≤ 1000 := by rw [clip_size]; omega
  have herr : doErr 18 [x] = 0 := by
    have hv : valB x = true := by rw [hx]; unfold valB; simp; omega
    unfold doErr
    rw [if_pos (by simp [hv]), hx]
    rfl
  have hdoes : ∀ W, Calls Tryz.prog (fnOf 18) #[vval (arg3 [x] 0), vval (arg3 [x] 1), vval (arg3 [x] 2)] W fun e w' => e = .returned (vval ⟨false, writS s, ⟨#[]⟩⟩) ∧ Below W.heap.size W w' := fun W => by
    have := value_number.any x z24 z24 W (by rw [hx]; show (clipS s).size ≤ _; omega)
    rw [show numS x.f2.data.toList = writS s from by rw [hx]; rfl] at this
    exact this
  have hdo : ∀ (W : World) (g c : Nat) (t : Nat), W.heap[g]? = some (.cells #[.bool true, .int .i64 0, .string (clipS s)] t (0, 0)) → Calls Tryz.prog 78 #[.int .i64 18, .slice (some ⟨g, 0, none⟩) 1 c] W fun e w' => e = .returned (.tuple #[.agg #[.bool false, .int .i64 (writS s), .string ⟨#[]⟩], .int .i64 0]) ∧ Below W.heap.size W w' := fun W g c t h => by
    have h2 := value_Do.any 18 (some ⟨g, 0, none⟩) c [x] W (C_val_blk (by rw [hx]; exact h)) ⟨false, writS s, ⟨#[]⟩⟩ (by simp) (fun _ W' _ => hdoes W')
    rw [doVal_yes herr, herr] at h2
    exact h2
  have HDO := Aside0.mk hdo
  clear hdo hdoes herr hsz hx x
  go_enter Tryz.func71, Tryz.ntmps71
  go_wp2_with (first
    | (go_at_call 79; refine (value_Text.any s _ hs).mono ?_; rintro e w1 ⟨rfl, hb⟩; have HB := Aside0.mk hb; clear hb)
    | (go_at_call 78; refine (HDO.out _ _ _ _ (blk_new _ _)).mono ?_; rintro e w2 ⟨rfl, hb⟩; have HB2 := Aside0.mk (below_step (below_alloc HB.out _) hb); clear hb))
  go_ret
  exact ⟨rfl, below_alloc HB2.out _⟩
/-- in the print's form -/
def job_written.f (a0 : ByteArray) : Option Int := if a0.size ≤ 140737488355328 then some (writS a0) else none
theorem job_written.calls (a0 : ByteArray) (r : Int) (w : World) (h : job_written.f a0 = some r) : Calls Tryz.prog 71 #[.string a0] w fun e w' => e = .returned (.int .i64 r) ∧ Below w.heap.size w w' := by
  unfold job_written.f at h
  split at h
  · injection h with h
    subst h
    exact job_written.any a0 w (by omega)
  · cases h
end Go.Proofs.YtjgmkimekipgmaaGreatDoor.G
