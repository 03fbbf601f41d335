/- Which key is ahead: job.Ahead, by hand. -/
import Derived.Test.YtjgmkimekipgmaaGreatDoorJw
namespace Go.Proofs.YtjgmkimekipgmaaGreatDoor.G
open Go.RowKit Go.Sort Go.Proofs.YtjgmkimekipgmaaGreatDoorW.PrintWords Go.Proofs.YtjgmkimekipgmaaGreatDoorW.PrintLast Go.Proofs.YtjgmkimekipgmaaGreatDoorW.PrintMore
set_option linter.unusedVariables false
set_option linter.unusedSimpArgs false

/-- a job's cells as they are handed on -/
structure JC where
  b0 : Bool
  s1 : Option Addr × Nat × Nat
  s2 : Option Addr × Nat × Nat
  s3 : Option Addr × Nat × Nat
  n4 : Int
  s5 : Option Addr × Nat × Nat
  b6 : Bool
  n7 : Int
  t8 : ByteArray
  b9 : Bool
  n10 : Int
  down : Bool
  num : Bool
  n13 : Int
def slV (s : Option Addr × Nat × Nat) : Value := .slice s.1 s.2.1 s.2.2
def JC.cs (j : JC) : List Value := [.bool j.b0, .slice j.s1.1 j.s1.2.1 j.s1.2.2, .slice j.s2.1 j.s2.2.1 j.s2.2.2, .slice j.s3.1 j.s3.2.1 j.s3.2.2, .int .i64 j.n4, .slice j.s5.1 j.s5.2.1 j.s5.2.2, .bool j.b6, .int .i64 j.n7, .string j.t8, .bool j.b9, .int .i64 j.n10, .bool j.down, .bool j.num, .int .i64 j.n13]
def JC.v (j : JC) : Value := .agg #[.bool j.b0, .slice j.s1.1 j.s1.2.1 j.s1.2.2, .slice j.s2.1 j.s2.2.1 j.s2.2.2, .slice j.s3.1 j.s3.2.1 j.s3.2.2, .int .i64 j.n4, .slice j.s5.1 j.s5.2.1 j.s5.2.2, .bool j.b6, .int .i64 j.n7, .string j.t8, .bool j.b9, .int .i64 j.n10, .bool j.down, .bool j.num, .int .i64 j.n13]

def cmpI (a b : Int) : Int := if a < b then -1 else if b < a then 1 else 0
def cmpS (a b : ByteArray) : Int := if Op.bytesLess a.toList b.toList = true then -1 else if (a.toList == b.toList) = true then 0 else 1
def or2 (a b : Int) : Int := if a = 0 then b else a
def keyCmp (num : Bool) (a b : ByteArray) : Int := or2 (if num then cmpI (writS a) (writS b) else 0) (cmpS a b)
def aheadB (down num : Bool) (a b : ByteArray) : Bool := decide ((if down then keyCmp num b a else keyCmp num a b) < 0)

set_option maxRecDepth 100000 in
set_option maxHeartbeats 2000000 in
theorem cmp_int.any (a b : Int) (w : World) : Calls Tryz.prog 70 #[.int .i64 a, .int .i64 b] w fun e w' => e = .returned (.int .i64 (cmpI a b)) ∧ w' = w := by
  by_cases h : a < b
  · have hc : cmpI a b = -1 := by unfold cmpI; rw [if_pos h]
    rw [hc]
    go_enter Tryz.func70, Tryz.ntmps70
    go_wp2
    go_ret
    exact ⟨rfl, rfl⟩
  · by_cases h2 : b < a
    · have hc : cmpI a b = 1 := by unfold cmpI; rw [if_neg h, if_pos h2]
      rw [hc]
      go_enter Tryz.func70, Tryz.ntmps70
      go_wp2
      go_ret
      exact ⟨rfl, rfl⟩
    · have hc : cmpI a b = 0 := by unfold cmpI; rw [if_neg h, if_neg h2]
      rw [hc]
      go_enter Tryz.func70, Tryz.ntmps70
      go_wp2
      go_ret
      exact ⟨rfl, rfl⟩
set_option maxRecDepth 100000 in
set_option maxHeartbeats 2000000 in
theorem cmp_str.any (a b : ByteArray) (w : World) : Calls Tryz.prog 73 #[.string a, .string b] w fun e w' => e = .returned (.int .i64 (cmpS a b)) ∧ w' = w := by
  by_cases h : Op.bytesLess a.toList b.toList = true
  · have hc : cmpS a b = -1 := by unfold cmpS; rw [if_pos h]
    rw [hc]
    go_enter Tryz.func73, Tryz.ntmps73
    go_wp2
    go_ret
    exact ⟨rfl, rfl⟩
  · by_cases h2 : (a.toList == b.toList) = true
    · have hc : cmpS a b = 0 := by unfold cmpS; rw [if_neg h, if_pos h2]
      have h' : Op.bytesLess a.toList b.toList = false := by simpa using h
      clear h
      rw [hc]
      go_enter Tryz.func73, Tryz.ntmps73
      go_wp2
      go_ret
      exact ⟨rfl, rfl⟩
    · have hc : cmpS a b = 1 := by unfold cmpS; rw [if_neg h, if_neg h2]
      have h' : Op.bytesLess a.toList b.toList = false := by simpa using h
      have h2' : (a.toList == b.toList) = false := by simpa using h2
      clear h h2
      rw [hc]
      go_enter Tryz.func73, Tryz.ntmps73
      go_wp2
      go_ret
      exact ⟨rfl, rfl⟩
set_option maxRecDepth 100000 in
set_option maxHeartbeats 2000000 in
theorem cmp_or.any (a b : Int) (g c t : Nat) (w : World) (hg : w.heap[g]? = some (.cells #[.int .i64 a, .int .i64 b] t (0, 0))) : Calls Tryz.prog 72 #[.slice (some ⟨g, 0, none⟩) 2 c] w fun e w' => e = .returned (.int .i64 (or2 a b)) ∧ w' = w := by
  have x0 : w.cell? ⟨g, 0, none⟩ = some (.int .i64 a) := blk_cell hg 0
  have x1 : w.cell? ⟨g, 1, none⟩ = some (.int .i64 b) := blk_cell hg 1
  clear hg
  go_enter Tryz.func72, Tryz.ntmps72
  go_wp2
  go_loop [8] (fun v8 => ∃ i : Nat, v8 = .int .i64 i ∧ i ≤ 2 ∧ Aside0 (1 ≤ i → a = 0) ∧ Aside0 (2 ≤ i → b = 0)) (fun v8 => 2 - (intOf v8).toNat)
  case atStart => exact ⟨0, rfl, by omega, ⟨fun h => absurd h (by omega)⟩, ⟨fun h => absurd h (by omega)⟩⟩
  case round =>
    obtain ⟨i, rfl, hi, Ha, Hb⟩ := hrel
    by_cases hlt : i < 2
    · obtain ⟨v, hv⟩ : ∃ v, v = if i = 0 then a else b := ⟨_, rfl⟩
      have xi : w.cell? ⟨g, i, none⟩ = some (.int .i64 v) := by
        rw [hv]
        rcases i with _ | _ | i
        · exact x0
        · exact x1
        · omega
      have HV := Aside0.mk hv
      clear hv x0 x1
      by_cases h0 : v = 0
      · have h0' : (v != 0) = false := by simpa using h0
        have HZ := Aside0.mk h0
        clear h0
        go_wp2
        go_round
        case rel =>
          have e := HV.out
          have z := HZ.out
          refine ⟨i + 1, by go_num, by omega, ⟨fun _ => ?_⟩, ⟨fun h => ?_⟩⟩
          · rcases Nat.eq_zero_or_pos i with h | h
            · rw [if_pos h] at e; omega
            · exact Ha.out h
          · rw [if_neg (by omega)] at e; omega
        case measure => simp [intOf]; omega
      · have h0' : (v != 0) = true := by simpa using h0
        have HZ := Aside0.mk h0
        clear h0
        go_wp2
        go_ret
        refine ⟨?_, rfl⟩
        have e := HV.out
        have z := HZ.out
        have : or2 a b = v := by
          unfold or2
          rcases Nat.eq_zero_or_pos i with h | h
          · rw [if_pos h] at e; rw [if_neg (by omega)]; exact e.symm
          · rw [if_neg (by omega)] at e; rw [if_pos (Ha.out h)]; exact e.symm
        rw [this]; rfl
    · have hr : or2 a b = 0 := by unfold or2; rw [if_pos (Ha.out (by omega)), Hb.out (by omega)]
      have HR := Aside0.mk hr
      clear hr
      go_wp2
      go_ret
      exact ⟨by rw [HR.out]; rfl, rfl⟩
theorem blk_new2 (w : World) (A B : Obj) : ((w.alloc A).alloc B).heap[w.heap.size + 1]? = some B := by
  have h := blk_new (w.alloc A) B
  rwa [show (w.alloc A).heap.size = w.heap.size + 1 from by simp] at h
set_option maxRecDepth 100000 in
set_option maxHeartbeats 4000000 in
theorem job_Ahead.any (j : JC) (a b : ByteArray) (w : World) (ha : a.size ≤ 9223372036854775807) (hb : b.size ≤ 9223372036854775807) :
    Calls Tryz.prog 66 #[.agg #[.bool j.b0, .slice j.s1.1 j.s1.2.1 j.s1.2.2, .slice j.s2.1 j.s2.2.1 j.s2.2.2, .slice j.s3.1 j.s3.2.1 j.s3.2.2, .int .i64 j.n4, .slice j.s5.1 j.s5.2.1 j.s5.2.2, .bool j.b6, .int .i64 j.n7, .string j.t8, .bool j.b9, .int .i64 j.n10, .bool j.down, .bool j.num, .int .i64 j.n13], .string a, .string b] w
      fun e w' => e = .returned (.bool (aheadB j.down j.num a b)) ∧ Below w.heap.size w w' := by
  have HW := Aside0.mk (fun (s : ByteArray) (W : World) (hs : s.size ≤ 9223372036854775807) => job_written.any s W hs)
  have HA := Aside0.mk ha
  have HBB := Aside0.mk hb
  clear ha hb
  obtain ⟨b0, ⟨A1, n1, c1⟩, ⟨A2, n2, c2⟩, ⟨A3, n3, c3⟩, n4, ⟨A5, n5, c5⟩, b6, n7, t8, b9, n10, down, num, n13⟩ := j
  show Calls Tryz.prog 66 #[.agg #[.bool b0, .slice A1 n1 c1, .slice A2 n2 c2, .slice A3 n3 c3, .int .i64 n4, .slice A5 n5 c5, .bool b6, .int .i64 n7, .string t8, .bool b9, .int .i64 n10, .bool down, .bool num, .int .i64 n13], .string a, .string b] w fun e w' => e = .returned (.bool (aheadB down num a b)) ∧ Below w.heap.size w w'
  obtain ⟨R, hR⟩ : ∃ R, R = aheadB down num a b := ⟨_, rfl⟩
  rw [← hR]
  have HR := Aside0.mk hR
  clear hR HW
  cases down <;> cases num
  all_goals
    go_enter Tryz.func66, Tryz.ntmps66
    go_wp2_with (first
      | (go_at_call 71; refine (job_written.any _ _ (by first | exact HA.out | exact HBB.out)).mono ?_; rintro e w1 ⟨rfl, hb1⟩; (first | (have HB2 := Aside0.mk (below_step HB1.out hb1); clear HB1; have HB1 := HB2; clear HB2) | have HB1 := Aside0.mk (below_step (below_alloc (Below.refl _ _) _) hb1)); clear hb1)
      | (go_at_call 70; refine (cmp_int.any _ _ _).mono ?_; rintro e w1 ⟨rfl, rfl⟩)
      | (go_at_call 73; refine (cmp_str.any _ _ _).mono ?_; rintro e w1 ⟨rfl, rfl⟩)
      | (go_at_call 72; refine (cmp_or.any _ _ _ _ 3 _ (by first | with_reducible exact blk_new _ _ | with_reducible exact blk_new2 _ _ _)).mono ?_; rintro e w1 ⟨rfl, rfl⟩))
    go_ret
    first
      | exact ⟨by rw [HR.out]; rfl, below_alloc (below_alloc (Below.refl _ _) _) _⟩
      | exact ⟨by rw [HR.out]; rfl, below_alloc HB1.out _⟩
end Go.Proofs.YtjgmkimekipgmaaGreatDoor.G
