import Derived.Test.YtjgmkimekipgmaaGreatDoorVr
namespace Go.Proofs.YtjgmkimekipgmaaGreatDoor.G
open Go.RowKit Go.Sort Go.Proofs.YtjgmkimekipgmaaGreatDoorW.PrintWords Go.Proofs.YtjgmkimekipgmaaGreatDoorW.PrintLast Go.Proofs.YtjgmkimekipgmaaGreatDoorW.PrintMore
set_option linter.unusedVariables false
set_option linter.unusedSimpArgs false

set_option maxRecDepth 100000 in
set_option maxHeartbeats 4000000 in
theorem value_Result.yes (o : Int) (A : Option Addr) (c : Nat) (args : List Bool) (w : World) (ho : isOp o = true) (hr : Kd.C Kd.bool w A args.length args) :
    Calls Tryz.prog 88 #[.int .i64 o, .slice A args.length c] w fun e w' => e = .returned (.tuple #[.bool (resultS o args).1, .int .i64 (resultS o args).2]) ∧ Below w.heap.size w w' := by
  have HO : Hid (isOp o = true) := ho
  have HR := Aside0.mk hr
  obtain ⟨hl1, hl3⟩ := takes_len o ho
  have hlm : args.length ≤ 9223372036854775807 := hr.2.1
  obtain ⟨n, hn⟩ : ∃ n, n = (takesOf o).length := ⟨_, rfl⟩
  have HN := Aside0.mk hn
  rw [← hn] at hl1 hl3
  clear hn
  obtain ⟨tl, htl⟩ : ∃ tl, tl = tellsOf o := ⟨_, rfl⟩
  have htr : tl = 0 ∨ tl = 1 ∨ tl = 2 := by rw [htl]; exact tells_range o ho
  have HTR := Aside0.mk htr
  have HTL := Aside0.mk htl
  have hv : opVal w.heap.size o = .agg #[.slice (some ⟨w.heap.size + blkOf o, 0, none⟩) n n, .int .i64 tl, .func (.func (fnOf o)) #[] #[]] := by unfold opVal; rw [← HN.out, htl]
  clear htr htl
  have HV := Aside0.mk hv
  clear hv ho hr
  obtain ⟨m, rfl⟩ : ∃ m, n = m + 1 := ⟨n - 1, by omega⟩
  by_cases hln : args.length = m + 1
  · have hlb : (((args.length : Int)) != (((m + 1 : Nat) : Int))) = false := by simp [hln]
    obtain ⟨ad, ea, hlast⟩ := Kd.at_bool HR.out (m : Int) (by omega) (by omega)
    subst ea
    obtain ⟨last, hla⟩ : ∃ b, b = rdOf false args (m : Int) := ⟨_, rfl⟩
    rw [← hla] at hlast
    have hB := ostate_below w
    have hlast' := (hB.cell (World.block_lt_of_cell? w _ hlast)).trans hlast
    rw [Int.toNat_natCast] at hlast'
    have HB := Aside0.mk hB
    have HL := Aside0.mk hla
    clear hB hlast hla
    have hadb : ∀ i : Nat, i < m + 1 → (ostate w 11 18).cell? (ad.add i) = some (.bool (args.getD i false)) := fun i hi => by
      obtain ⟨ad', e', h'⟩ := Kd.at_bool HR.out (i : Int) (by omega) (by omega)
      injection e' with e'
      subst e'
      rw [Int.toNat_natCast] at h'
      exact (HB.out.cell (World.block_lt_of_cell? w _ h')).trans h'
    have hbk : ∀ i : Nat, i < m + 1 → (ostate w 11 18).cell? ⟨w.heap.size + blkOf o, i, none⟩ = some (.int .i64 ((takesOf o).getD i 0)) := fun i hi => by
      have h := (ostate_reads w o HO.out).2.2 (by rw [← HN.out]; omega)
      obtain ⟨ad', e', h'⟩ := h
      injection e' with e'
      subst e'
      have := h' i (by rw [← HN.out]; exact hi)
      rwa [add_plain] at this
    have HADB := Aside0.mk hadb
    have HBK := Aside0.mk hbk
    clear hadb hbk
    have hlal : ∀ ob, ((ostate w 11 18).alloc ob).cell? (ad.add m) = some (.bool last) := fun ob => pw_cell_below (below_alloc (Below.refl _ _) ob) hlast'
    clear hlast'
    go_enter Tryz.func88, Tryz.ntmps88
    go_wp2_with (first
      | (go_at_call 89; refine (ops_any _).mono ?_; rintro e w' ⟨rfl, rfl⟩; have hl := look_op w _ (Below.refl _ _) o HO.out true; simp only [if_true] at hl; rw [HV.out] at hl))
    obtain ⟨W, hW⟩ : ∃ W, W = (ostate w 11 18).alloc (.cells #[.slice (some ⟨w.heap.size + blkOf o, 0, none⟩) (m + 1) (m + 1), .int .i64 tl, .func (.func (fnOf o)) #[] #[]] 151) := ⟨_, rfl⟩
    have HBW := Aside0.mk (show Below w.heap.size w W from by rw [hW]; exact below_alloc HB.out _)
    have HAW := Aside0.mk (show ∀ i : Nat, i < m + 1 → W.cell? (ad.add i) = some (.bool (args.getD i false)) from fun i hi => by rw [hW]; exact pw_cell_below (below_alloc (Below.refl _ _) _) (HADB.out i hi))
    have HTW := Aside0.mk (show ∀ i : Nat, i < m + 1 → W.cell? ⟨w.heap.size + blkOf o, i, none⟩ = some (.int .i64 ((takesOf o).getD i 0)) from fun i hi => by rw [hW]; exact pw_cell_below (below_alloc (Below.refl _ _) _) (HBK.out i hi))
    obtain ⟨gb, hgb⟩ : ∃ gb, gb = (ostate w 11 18).heap.size := ⟨_, rfl⟩
    have hgc : W.heap[gb]? = some (.cells #[.slice (some ⟨w.heap.size + blkOf o, 0, none⟩) (m + 1) (m + 1), .int .i64 tl, .func (.func (fnOf o)) #[] #[]] 151 (0, 0)) := by rw [hW, hgb]; exact heap_alloc_new _ _
    have hg1 : W.cell? ⟨gb, 1, none⟩ = some (.int .i64 tl) := by unfold World.cell?; rw [hgc]; rfl
    rw [← hW, ← hgb]
    clear hlal HADB HBK hW hgb hgc
    go_loop [36] (fun v36 => ∃ i : Nat, v36 = .int .i64 i ∧ i ≤ m + 1 ∧ Aside0 (badFrom o args i = badFrom o args 0)) (fun v36 => m + 1 - (intOf v36).toNat)
    case atStart => exact ⟨0, rfl, by omega, ⟨rfl⟩⟩
    case round =>
      obtain ⟨i, rfl, hi, HBF⟩ := hrel
      by_cases hlt : i < m + 1
      · have ca := HAW.out i hlt
        have ct := HTW.out i hlt
        have hstep := Aside0.mk (badFrom_step o args i (by rw [← HN.out]; exact hlt))
        have hkr := takes_range o HO.out (i : Int) (by omega) (by rw [← HN.out]; omega)
        have hbd := Aside0.mk (show badAt o args i = ((takesOf o).getD i 0 == 0 && args.getD i false || (takesOf o).getD i 0 == 1 && !args.getD i false || (takesOf o).getD i 0 == 2 && args.getD i false != last) from by
          unfold badAt
          rw [HL.out, hln]
          simp [rd, rdOf])
        rw [show rd (takesOf o) (i : Int) = (takesOf o).getD i 0 from by simp [rd]] at hkr
        generalize (takesOf o).getD i 0 = kk at ca ct hkr hbd
        generalize args.getD i false = bb at ca ct hkr hbd
        have hbad := Aside0.mk (show badAt o args i = true → Ending.returned (.tuple #[.bool false, .int .i64 11]) = .returned (.tuple #[.bool (resultS o args).1, .int .i64 (resultS o args).2]) from fun h => by
          rw [resultS_bad HO.out (by rw [hln]; exact HN.out) (by rw [← HBF.out, hstep.out, h]; rfl)])
        rcases hkr with rfl | rfl | rfl <;> cases bb <;> cases last
        all_goals
          go_wp2
          first
            | (go_ret2; exact ⟨hbad.out (by rw [hbd.out]; rfl), HBW.out⟩)
            | (go_round
               (case rel => exact ⟨i + 1, by go_num, by omega, ⟨by rw [← HBF.out, hstep.out, hbd.out]; rfl⟩⟩)
               (case measure => simp [intOf]; omega))
      · have hgood := resultS_good HO.out (by rw [hln]; exact HN.out) (by rw [← HBF.out]; exact badFrom_end o args i (by rw [← HN.out]; omega))
        have hl2 : args.getD (args.length - 1) false = last := by rw [HL.out, hln]; simp [rdOf]
        rw [hl2, ← HTL.out] at hgood
        have HG := Aside0.mk hgood
        clear hgood hl2
        rcases HTR.out with rfl | rfl | rfl
        all_goals
          go_wp2
          go_ret2
          exact ⟨by rw [HG.out]; cases last <;> rfl, HBW.out⟩
  · have hlb : (((args.length : Int)) != (((m + 1 : Nat) : Int))) = true := by simp; omega
    have hres := Aside0.mk (resultS_long HO.out (by rw [← HN.out]; exact hln))
    have HB := Aside0.mk (ostate_below w)
    go_enter Tryz.func88, Tryz.ntmps88
    go_wp2_with (first
      | (go_at_call 89; refine (ops_any _).mono ?_; rintro e w' ⟨rfl, rfl⟩; have hl := look_op w _ (Below.refl _ _) o HO.out true; simp only [if_true] at hl; rw [HV.out] at hl))
    all_goals
      go_ret2
      exact ⟨by rw [hres.out]; rfl, below_alloc HB.out _⟩
theorem value_Result.any (o : Int) (A : Option Addr) (c : Nat) (args : List Bool) (w : World) (hr : Kd.C Kd.bool w A args.length args) :
    Calls Tryz.prog 88 #[.int .i64 o, .slice A args.length c] w fun e w' => e = .returned (.tuple #[.bool (resultS o args).1, .int .i64 (resultS o args).2]) ∧ Below w.heap.size w w' := by
  by_cases ho : isOp o = true
  · exact value_Result.yes o A c args w ho hr
  · have ho' : isOp o = false := by simpa using ho
    have e : resultS o args = (false, 1) := by unfold resultS; rw [if_pos ho']
    rw [e]
    exact value_Result.no o A c args w ho'
end Go.Proofs.YtjgmkimekipgmaaGreatDoor.G
