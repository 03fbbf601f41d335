/- What value's 'number' tells: the walk. -/
import Derived.Test.YtjgmkimekipgmaaGreatDoorVt
import Derived.Test.YtjgmkimekipgmaaGreatDoorNu
import Derived.Test.YtjgmkimekipgmaaGreatDoorSh
namespace Go.Proofs.YtjgmkimekipgmaaGreatDoor.G
open Go.RowKit Go.Sort Go.Proofs.YtjgmkimekipgmaaGreatDoorW.PrintWords Go.Proofs.YtjgmkimekipgmaaGreatDoorW.PrintLast Go.Proofs.YtjgmkimekipgmaaGreatDoorW.PrintMore
set_option linter.unusedVariables false
set_option linter.unusedSimpArgs false

theorem trim_any (s : ByteArray) (w : World) (hs : s.size ≤ 9223372036854775807) : Calls Tryz.prog 125 #[.string s, .string ⟨#[48, 49, 50, 51, 52, 53, 54, 55, 56, 57]⟩] w fun e w' => e = .returned (.string ⟨(Lib.trimS s.data.toList tens).toArray⟩) ∧ Below w.heap.size w w' := by
  by_cases h0 : 0 < s.size
  · refine (Any.strings_Trim_set Tryz.lays160 (fun w => by kernel_rfl) (by kernel_rfl) s ⟨#[48, 49, 50, 51, 52, 53, 54, 55, 56, 57]⟩ w (by decide) h0 hs (by decide) ?_).mono ?_
    · intro j b hb
      have : b ∈ tens := List.mem_of_getElem? hb
      have h2 : ∀ b ∈ tens, b.toNat < 128 := by decide
      exact h2 b this
    · rintro e w' ⟨he, q, hw⟩
      subst hw
      exact ⟨he, pw_below_drewN (below_alloc (below_alloc (Below.refl _ _) _) _) q⟩
  · refine (Any.strings_Trim_empty Tryz.lays160 s _ w (.inl (by omega))).mono ?_
    rintro e w' ⟨he, rfl⟩
    refine ⟨?_, Below.refl _ _⟩
    rw [he]
    have : s.data.toList = [] := List.eq_nil_of_length_eq_zero (by have := Lib.size_eq s; omega)
    have e2 : s = ⟨s.data.toList.toArray⟩ := by simp
    rw [this] at e2 ⊢
    rw [e2]
    rfl

set_option maxRecDepth 100000 in
set_option maxHeartbeats 2000000 in
theorem value_Num.any (n : Int) (w : World) : Calls Tryz.prog 120 #[.int .i64 n] w fun e w' => e = .returned (.agg #[.bool false, .int .i64 n, .string ⟨#[]⟩]) ∧ Below w.heap.size w w' := by
  go_enter Tryz.func120, Tryz.ntmps120
  go_wp2
  refine bodyPost_ret (v := .agg #[.bool false, .int .i64 n, .string ⟨#[]⟩]) ?_ rfl ⟨rfl, below_alloc (Below.refl _ _) _⟩
  simp [results, Tryz.results120, go_sem]
theorem numS_no {l : List UInt8} (h : numOk l = false) : numS l = 0 := by unfold numS; rw [if_neg (by simp [h])]

set_option maxRecDepth 100000 in
set_option maxHeartbeats 4000000 in
theorem value_number.any (x y z : S24) (w : World) (hs : x.f2.size ≤ 1000000) :
    Calls Tryz.prog 115 #[.agg #[.bool x.f0, .int .i64 x.f1, .string x.f2], .agg #[.bool y.f0, .int .i64 y.f1, .string y.f2], .agg #[.bool z.f0, .int .i64 z.f1, .string z.f2]] w fun e w' =>
      e = .returned (.agg #[.bool false, .int .i64 (numS x.f2.data.toList), .string ⟨#[]⟩]) ∧ Below w.heap.size w w' := by
  obtain ⟨D, hD⟩ : ∃ D, D = Lib.trimPrefix x.f2.data.toList [45] := ⟨_, rfl⟩
  have hlen : D.length ≤ x.f2.data.toList.length := by
    rw [hD]
    unfold Lib.trimPrefix
    split
    · simp
    · exact Nat.le_refl _
  have hsz := Lib.size_eq x.f2
  have hok : numOk x.f2.data.toList = (!D.isEmpty && decide (D.length ≤ 18) && (Lib.trimS D tens).isEmpty) := by
    unfold numOk
    rw [show digS x.f2.data.toList = D from hD.symm, trimS_nil]
  have HDD := Aside0.mk hD
  have HOK := Aside0.mk hok
  have HL := Aside0.mk (show (⟨D.toArray⟩ : ByteArray).size ≤ 9223372036854775807 from by show D.toArray.size ≤ _; simp; omega)
  have hxs : x.f2.size ≤ 9223372036854775806 := by omega
  have HX := Aside0.mk hxs
  have HB := Aside0.mk (show ∀ a b c d : Obj, Below w.heap.size w ((((w.alloc a).alloc b).alloc c).alloc d) from fun a b c d => below_alloc (below_alloc (below_alloc (below_alloc (Below.refl _ _) _) _) _) _)
  clear hD hlen hsz hok hxs
  by_cases hgood : numOk x.f2.data.toList = true
  · have hg := hgood
    rw [HOK.out] at hg
    simp only [Bool.and_eq_true, Bool.not_eq_true', decide_eq_true_eq] at hg
    obtain ⟨⟨h1, h2⟩, h3⟩ := hg
    have h2' : decide (18 < (D.length : Int)) = false := by simp; omega
    have HG := Aside0.mk hgood
    clear hgood h2
    go_enter Tryz.func115, Tryz.ntmps115
    go_wp2_with (first
      | (go_at_call 124; refine (Tryz.strings_TrimPrefix _ _ _).mono ?_; rintro e w' ⟨rfl, rfl⟩; rw [← HDD.out])
      | (go_at_call 125; refine (trim_any _ _ HL.out).mono ?_; rintro e w1 ⟨rfl, hb⟩; have HB1 := Aside0.mk (below_step (HB.out _ _ _ _) hb); have BX := Aside0.mk (blk_below (blk_alloc (blk_alloc (blk_alloc (blk_new w (.cells #[.bool x.f0, .int .i64 x.f1, .string x.f2] 145)) _) _) _) hb)
         have BR : Aside0 (w1.heap[w.heap.size + 1 + 1 + 1]? = some (.cells #[.bool false, .int .i64 0, .string ⟨#[]⟩] 24 (0, 0))) := ⟨by have := blk_below (blk_new (((w.alloc _).alloc _).alloc _) _) hb; simpa using this⟩
         have c2 : w1.cell? ⟨w.heap.size, 2, none⟩ = some (.string x.f2) := blk_cell BX.out 2
         clear hb)
      | (go_at_call 126; refine (Tryz.strconv_Atoi_ok _ HX.out _ (atoi_num _ HG.out) _).mono ?_; rintro e w2 ⟨rfl, hb⟩
         have hb2 : Below w1.heap.size w1 w2 := by
           rcases hb with rfl | ⟨t, rfl⟩
           · exact Below.refl _ _
           · exact bytes_below (Below.refl _ _) (Nat.le_refl _) _ _
         have HB2 := Aside0.mk (below_step HB1.out hb2); have BR2 := Aside0.mk (blk_below BR.out hb2); clear hb hb2 c2)
      | (go_at_call 120; refine (value_Num.any _ _).mono ?_; rintro e w3 ⟨rfl, hb⟩; have HB3 := Aside0.mk (below_step HB2.out hb); have BR3 := Aside0.mk (blk_below BR2.out hb); clear hb
         have g0 : w3.cell? ⟨w.heap.size + 1 + 1 + 1, 0, none⟩ = some (.bool false) := blk_cell BR3.out 0
         have g1 : w3.cell? ⟨w.heap.size + 1 + 1 + 1, 1, none⟩ = some (.int .i64 0) := blk_cell BR3.out 1
         have g2 : w3.cell? ⟨w.heap.size + 1 + 1 + 1, 2, none⟩ = some (.string ⟨#[]⟩) := blk_cell BR3.out 2
         have f0 := blk_frozen BR3.out 0
         have f1 := blk_frozen BR3.out 1
         have f2 := blk_frozen BR3.out 2))
    refine bodyPost_ret (v := .agg #[.bool false, .int .i64 (numS x.f2.data.toList), .string ⟨#[]⟩]) ?_ rfl ⟨rfl, below_set (below_set (below_set HB3.out (by omega)) (by omega)) (by omega)⟩
    simp [results, Tryz.results115, go_sem, g0, g1, g2]
  · have hbad : numOk x.f2.data.toList = false := by simpa using hgood
    have hz := Aside0.mk (numS_no hbad)
    rw [HOK.out] at hbad
    clear hgood
    have HBD := Aside0.mk hbad
    clear hbad
    go_enter Tryz.func115, Tryz.ntmps115
    go_wp2_with (first
      | (go_at_call 124; refine (Tryz.strings_TrimPrefix _ _ _).mono ?_; rintro e w' ⟨rfl, rfl⟩; rw [← HDD.out])
      | (go_at_call 125; refine (trim_any _ _ HL.out).mono ?_; rintro e w1 ⟨rfl, hb⟩; have HB1 := Aside0.mk (below_step (HB.out _ _ _ _) hb)
         have BR : Aside0 (w1.heap[w.heap.size + 1 + 1 + 1]? = some (.cells #[.bool false, .int .i64 0, .string ⟨#[]⟩] 24 (0, 0))) := ⟨by have := blk_below (blk_new (((w.alloc _).alloc _).alloc _) _) hb; simpa using this⟩
         clear hb)
      | (go_at_call 120; refine (value_Num.any _ _).mono ?_; rintro e w3 ⟨rfl, hb⟩
         (first
           | (have HB3 := Aside0.mk (below_step HB1.out hb); have BR3 := Aside0.mk (blk_below BR.out hb))
           | (have HB3 := Aside0.mk (below_step (HB.out _ _ _ _) hb); have BR3 : Aside0 (w3.heap[w.heap.size + 1 + 1 + 1]? = some (.cells #[.bool false, .int .i64 0, .string ⟨#[]⟩] 24 (0, 0))) := ⟨by have := blk_below (blk_new (((w.alloc _).alloc _).alloc _) _) hb; simpa using this⟩))
         clear hb
         have g0 : w3.cell? ⟨w.heap.size + 1 + 1 + 1, 0, none⟩ = some (.bool false) := blk_cell BR3.out 0
         have g1 : w3.cell? ⟨w.heap.size + 1 + 1 + 1, 1, none⟩ = some (.int .i64 0) := blk_cell BR3.out 1
         have g2 : w3.cell? ⟨w.heap.size + 1 + 1 + 1, 2, none⟩ = some (.string ⟨#[]⟩) := blk_cell BR3.out 2
         have f0 := blk_frozen BR3.out 0
         have f1 := blk_frozen BR3.out 1
         have f2 := blk_frozen BR3.out 2))
    all_goals first
      | (refine bodyPost_ret (v := .agg #[.bool false, .int .i64 0, .string ⟨#[]⟩]) ?_ rfl ⟨by rw [hz.out], below_set (below_set (below_set HB3.out (by omega)) (by omega)) (by omega)⟩
         simp [results, Tryz.results115, go_sem, g0, g1, g2])
      | (exfalso; have hq := HBD.out; simp_all; done)
      | (exfalso; have hq := HBD.out; simp_all; omega)
end Go.Proofs.YtjgmkimekipgmaaGreatDoor.G
