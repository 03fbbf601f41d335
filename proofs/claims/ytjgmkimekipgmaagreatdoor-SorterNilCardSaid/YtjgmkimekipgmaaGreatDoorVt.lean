import Derived.Test.YtjgmkimekipgmaaGreatDoorVs
namespace Go.Proofs.YtjgmkimekipgmaaGreatDoor.G
open Go.RowKit Go.Sort Go.Proofs.YtjgmkimekipgmaaGreatDoorW.PrintWords Go.Proofs.YtjgmkimekipgmaaGreatDoorW.PrintLast Go.Proofs.YtjgmkimekipgmaaGreatDoorW.PrintMore
set_option linter.unusedVariables false
set_option linter.unusedSimpArgs false

def vval (x : S24) : Value := .agg #[.bool x.f0, .int .i64 x.f1, .string x.f2]
def valB (x : S24) : Bool := if x.f0 then x.f1 == 0 && decide ((x.f2.size : Int) ≤ 1000) else x.f2.toList.isEmpty

set_option maxRecDepth 100000 in
set_option maxHeartbeats 2000000 in
theorem value_isVal.any (x : S24) (w : World) : Calls Tryz.prog 87 #[.agg #[.bool x.f0, .int .i64 x.f1, .string x.f2]] w fun e w' => e = .returned (.bool (valB x)) ∧ Below w.heap.size w w' := by
  obtain ⟨b, n, s⟩ := x
  cases b
  · go_enter Tryz.func87, Tryz.ntmps87
    go_wp2
    go_ret
    exact ⟨rfl, below_alloc (Below.refl _ _) _⟩
  · by_cases hn : n = 0
    · subst hn
      go_enter Tryz.func87, Tryz.ntmps87
      go_wp2
      go_ret
      exact ⟨congrArg (fun b => Ending.returned (.bool b)) (by simp [valB]), below_alloc (Below.refl _ _) _⟩
    · have hn' : (n == 0) = false := by simp [hn]
      go_enter Tryz.func87, Tryz.ntmps87
      go_wp2
      go_ret
      exact ⟨congrArg (fun b => Ending.returned (.bool b)) (by simp [valB, hn]), below_alloc (Below.refl _ _) _⟩
/-- three values: what stands there, else none -/
def arg3 (l : List S24) (i : Nat) : S24 := l.getD i z24
def kindsOf (l : List S24) : List Bool := l.map (fun x => x.f0)
/-- why nothing is done: 0 if it is done -/
def doErr (o : Int) (l : List S24) : Int := if l.all valB then (resultS o (kindsOf l)).2 else 1

def doVal (o : Int) (l : List S24) (r : S24) : S24 := if doErr o l = 0 then r else z24
theorem doVal_no {o : Int} {l : List S24} {r : S24} {e : Int} (h : doErr o l = e) (he : e ≠ 0) : vval (doVal o l r) = .agg #[.bool false, .int .i64 0, .string ⟨#[]⟩] := by
  unfold doVal
  rw [if_neg (by rw [h]; exact he)]
  rfl
theorem doVal_yes {o : Int} {l : List S24} {r : S24} (h : doErr o l = 0) : doVal o l r = r := by
  unfold doVal
  rw [if_pos h]
/-- the row of kinds while it is filled -/
def isC (l : List S24) (n i : Nat) : Array Value := (((kindsOf l).take i ++ List.replicate (n - i) false).map Value.bool).toArray
theorem isC_zero (l : List S24) (n : Nat) : isC l n 0 = madeCells #[.bool false] n := by
  unfold isC madeCells
  apply Array.ext
  · simp
  · intro i h1 h2
    simp [Nat.mod_one]
theorem isC_at (l : List S24) (n i : Nat) (hn : n = l.length) (hi : i < n) : (isC l n i)[i]? = some (.bool false) := by
  unfold isC
  rw [List.getElem?_toArray, List.getElem?_map, List.getElem?_append_right (by simp [kindsOf]; omega), List.getElem?_replicate]
  simp only [List.length_take, kindsOf, List.length_map, Nat.min_eq_left (show i ≤ l.length by omega), Nat.sub_self]
  rw [if_pos (by omega)]
  rfl
theorem isC_set (l : List S24) (n i : Nat) (hn : n = l.length) (hi : i < n) : (isC l n i).setIfInBounds i (.bool (arg3 l i).f0) = isC l n (i + 1) := by
  have hk : (kindsOf l).length = n := by simp [kindsOf, hn]
  apply Array.ext'
  apply List.ext_getElem?
  intro j
  unfold isC
  simp only [List.setIfInBounds_toArray, List.getElem?_set, List.length_map, List.length_append, List.length_take, List.length_replicate, hk]
  by_cases hj : i = j
  · subst hj
    rw [if_pos rfl, if_pos (by omega), List.getElem?_map, List.getElem?_append_left (by simp [hk]; omega), List.getElem?_take, if_pos (by omega)]
    simp [kindsOf, arg3, List.getElem?_eq_getElem (show i < l.length by omega)]
  · rw [if_neg hj, List.getElem?_map, List.getElem?_map]
    congr 1
    by_cases hlt : j < i
    · rw [List.getElem?_append_left (by simp [hk]; omega), List.getElem?_append_left (by simp [hk]; omega), List.getElem?_take, List.getElem?_take, if_pos hlt, if_pos (by omega)]
    · rw [List.getElem?_append_right (by simp [hk]; omega), List.getElem?_append_right (by simp [hk]; omega), List.getElem?_replicate, List.getElem?_replicate]
      simp only [List.length_take, hk]
      congr 1
      apply propext
      omega
theorem isC_end (l : List S24) (n : Nat) (hn : n = l.length) : isC l n n = ((kindsOf l).map Value.bool).toArray := by
  have hk : (kindsOf l).length = n := by simp [kindsOf, hn]
  unfold isC
  simp [List.take_of_length_le (Nat.le_of_eq hk)]

theorem C_bool_blk {W : World} {g e : Nat} {xs : List Bool} (h : W.heap[g]? = some (.cells (xs.map Value.bool).toArray e (0, 0))) (hl : xs.length ≤ 9223372036854775807) : Kd.C Kd.bool W (some ⟨g, 0, none⟩) xs.length xs := by
  refine Kd.C_of_reads (d := false) ⟨rfl, hl, fun _ => ⟨_, rfl, fun j hj => ?_⟩⟩
  rw [add_plain, blk_cell h]
  simp [List.getElem?_eq_getElem hj, List.getD_eq_getElem?_getD]
theorem fn_enters (o : Int) (h : isOp o = true) : ∀ args W, (callFunc (fnOf o) args).run Tryz.prog W = .ok (.enter (fnOf o) args) W := by
  intro args W
  rcases isOp_cases h with rfl | rfl | rfl | rfl | rfl | rfl | rfl | rfl | rfl | rfl | rfl | rfl | rfl | rfl | rfl | rfl | rfl | rfl <;> kernel_rfl
theorem field_does (A : Option Addr) (n m : Nat) (t : Int) (f : Nat) (W : World) : (Instr.field 151 (.agg #[.slice A n m, .int .i64 t, .func (.func f) #[] #[]]) 2).run Tryz.prog W = .ok (.func (.func f) #[] #[]) W := by kernel_rfl
/-- the three places while they are filled -/
def arrQ (l : List S24) (i j : Nat) : S24 := if j < i then arg3 l j else z24
def arrC (l : List S24) (i : Nat) : Array Value := #[.bool (arrQ l i 0).f0, .int .i64 (arrQ l i 0).f1, .string (arrQ l i 0).f2, .bool (arrQ l i 1).f0, .int .i64 (arrQ l i 1).f1, .string (arrQ l i 1).f2, .bool (arrQ l i 2).f0, .int .i64 (arrQ l i 2).f1, .string (arrQ l i 2).f2]
theorem arrC_set (l : List S24) (i : Nat) (hi : i < 3) : (((arrC l i).setIfInBounds (i * 3) (.bool (arg3 l i).f0)).setIfInBounds (i * 3 + 1) (.int .i64 (arg3 l i).f1)).setIfInBounds (i * 3 + 2) (.string (arg3 l i).f2) = arrC l (i + 1) := by
  rcases i with _ | _ | _ | i
  · simp [arrC, arrQ]
  · simp [arrC, arrQ]
  · simp [arrC, arrQ]
  · omega
theorem arrQ_end (l : List S24) (j : Nat) : arrQ l l.length j = arg3 l j := by
  unfold arrQ arg3
  split
  · rfl
  · rw [List.getD_eq_getElem?_getD, List.getElem?_eq_none (by omega)]
    rfl
theorem resultS_len {o : Int} {args : List Bool} (h : (resultS o args).2 = 0) : isOp o = true ∧ args.length = (takesOf o).length := by
  unfold resultS at h
  split at h
  · cases h
  · split at h
    · cases h
    · rename_i h1 h2
      exact ⟨by simpa using h1, by simpa using h2⟩

set_option maxRecDepth 100000 in
set_option maxHeartbeats 4000000 in
theorem value_Do.any (o : Int) (A : Option Addr) (c : Nat) (l : List S24) (w : World) (hr : Kd.C k24 w A l.length l) (r : S24) (hlen : l.length ≤ 1000000)
    (hdoes : doErr o l = 0 → ∀ W, Below w.heap.size w W → Calls Tryz.prog (fnOf o) #[vval (arg3 l 0), vval (arg3 l 1), vval (arg3 l 2)] W fun e w' => e = .returned (vval r) ∧ Below W.heap.size W w') :
    Calls Tryz.prog 78 #[.int .i64 o, .slice A l.length c] w fun e w' => e = .returned (.tuple #[vval (doVal o l r), .int .i64 (doErr o l)]) ∧ Below w.heap.size w w' := by
  have HR := Aside0.mk hr
  have HD := Aside0.mk hdoes
  obtain ⟨n, hn⟩ : ∃ n, n = l.length := ⟨_, rfl⟩
  have HN := Aside0.mk hn
  rw [← hn] at hlen ⊢
  clear hn hr hdoes
  have hmk := fun W => run_make_row' (P := Tryz.prog) 139 4 (.bool false) 1 Tryz.underlying139 (by kernel_rfl) rfl .i64 .i64 n (by omega) (by omega) W
  have HB0 := Aside0.mk (Below.refl w.heap.size w)
  go_enter Tryz.func78, Tryz.ntmps78
  go_wp2
  have hm1 : ((w.alloc (.cells #[.bool false, .int .i64 0, .string ⟨#[]⟩] 24)).alloc (.cells (madeCells #[.bool false] n) 4)).heap[w.heap.size]? = some (.cells #[.bool false, .int .i64 0, .string ⟨#[]⟩] 24 (0, 0)) := blk_alloc (blk_new w _) _
  have hm2 : ((w.alloc (.cells #[.bool false, .int .i64 0, .string ⟨#[]⟩] 24)).alloc (.cells (madeCells #[.bool false] n) 4)).heap[w.heap.size + 1]? = some (.cells (isC l n 0) 4 (0, 0)) := by
    rw [isC_zero]
    have := blk_new (w.alloc (.cells #[.bool false, .int .i64 0, .string ⟨#[]⟩] 24)) (.cells (madeCells #[.bool false] n) 4)
    simpa using this
  have HM1 := Aside0.mk hm1
  have HM2 := Aside0.mk hm2
  clear hm1 hm2 hmk
  go_loopg [19] n (fun kq v19 W => ∃ i : Nat, v19 = .int .i64 i ∧ i ≤ n ∧ n - i ≤ kq ∧ Aside0 (∀ j, j < i → valB (arg3 l j) = true) ∧ Aside0 (Below w.heap.size w W) ∧
    Aside0 (W.heap[w.heap.size]? = some (.cells #[.bool false, .int .i64 0, .string ⟨#[]⟩] 24 (0, 0))) ∧ Aside0 (W.heap[w.heap.size + 1]? = some (.cells (isC l n i) 4 (0, 0))))
  case atStart => exact ⟨0, rfl, by omega, by omega, ⟨fun j hj => absurd hj (by omega)⟩, ⟨below_alloc (below_alloc HB0.out _) _⟩, HM1, HM2⟩
  case round =>
    clear HM1 HM2 HB0
    obtain ⟨i, rfl, hi, hik, HV, HB, HM1, HM2⟩ := hrel
    by_cases hlt : i < n
    · obtain ⟨ad, ea, x0, x1, x2⟩ := at_T24 HR.out (i : Int) (by omega) (by rw [← HN.out]; omega)
      subst ea
      rw [show rd_T24 l (i : Int) = arg3 l i from by simp [rd_T24, arg3]] at x0 x1 x2
      simp only [Int.toNat_natCast] at x0 x1 x2
      replace x0 := pw_cell_below HB.out x0
      replace x1 := (HB.out.cell (World.block_lt_of_cell? w _ x1)).trans x1
      replace x2 := (HB.out.cell (World.block_lt_of_cell? w _ x2)).trans x2
      obtain ⟨X, hX⟩ : ∃ X, X = arg3 l i := ⟨_, rfl⟩
      have HX := Aside0.mk hX
      have hset := Aside0.mk (isC_set l n i HN.out hlt)
      have hat := Aside0.mk (isC_at l n i HN.out hlt)
      rw [← hX] at x0 x1 x2 hset
      clear hX
      cases hvb : valB X with
      | false =>
        have HVB := Aside0.mk hvb
        clear hvb
        go_wp2_with (first
          | (go_at_call 87; refine (value_isVal.any X _).mono ?_; rintro e w1 ⟨rfl, hb⟩; rw [HVB.out]; have HMa := Aside0.mk (blk_below (blk_alloc HM1.out _) hb); have HBa := Aside0.mk (below_step (below_alloc HB.out _) hb); clear hb
             have g0 : w1.cell? ⟨w.heap.size, 0, none⟩ = some (.bool false) := blk_cell HMa.out 0
             have g1 : w1.cell? ⟨w.heap.size, 1, none⟩ = some (.int .i64 0) := blk_cell HMa.out 1
             have g2 : w1.cell? ⟨w.heap.size, 2, none⟩ = some (.string ⟨#[]⟩) := blk_cell HMa.out 2
             have f0 := blk_frozen HMa.out 0
             have f1 := blk_frozen HMa.out 1
             have f2 := blk_frozen HMa.out 2))
        have herr : doErr o l = 1 := by
          unfold doErr
          rw [if_neg]
          intro hall
          have := List.all_eq_true.1 hall (arg3 l i) (by unfold arg3; rw [List.getD_eq_getElem?_getD, List.getElem?_eq_getElem (by rw [← HN.out]; exact hlt)]; exact List.getElem_mem _)
          rw [← HX.out, HVB.out] at this
          cases this
        refine bodyPost_ret (v := .tuple #[.agg #[.bool false, .int .i64 0, .string ⟨#[]⟩], .int .i64 1]) ?_ rfl ⟨?_, below_set (below_set (below_set HBa.out (Nat.le_refl _)) (Nat.le_refl _)) (Nat.le_refl _)⟩
        · simp [results, Tryz.results78, go_sem, g0, g1, g2]
        · rw [doVal_no herr (by decide), herr]
      | true =>
        have HVB := Aside0.mk hvb
        clear hvb
        go_wp2_with (first
          | (go_at_call 87; refine (value_isVal.any X _).mono ?_; rintro e w1 ⟨rfl, hb⟩; rw [HVB.out]; have HMa := Aside0.mk (blk_below (blk_alloc HM1.out _) hb); have HMb := Aside0.mk (blk_below (blk_alloc HM2.out _) hb); have HBa := Aside0.mk (below_step (below_alloc HB.out _) hb)
             have g8 : w1.cell? ⟨wr.heap.size, 0, none⟩ = some (.bool X.f0) := blk_cell (blk_below (blk_new wr _) hb) 0
             clear hb
             have g0 : w1.cell? ⟨w.heap.size + 1, i, none⟩ = some (.bool false) := (blk_cell HMb.out i).trans hat.out
             have f0 := blk_frozen HMb.out i))
        go_roundg (gk - 1)
        case rel =>
          refine ⟨i + 1, by go_num, by omega, by omega, ⟨fun j hj => ?_⟩, ⟨below_set HBa.out (by omega)⟩, ⟨blk_far HMa.out (by simp) _⟩, ⟨by rw [← hset.out]; exact blk_set HMb.out i _⟩⟩
          rcases Nat.lt_succ_iff_lt_or_eq.1 hj with h | rfl
          · exact HV.out j h
          · rw [← HX.out]; exact HVB.out
        case measure => omega
    · obtain rfl : i = n := by omega
      clear hlt hik hi
      have hall : l.all valB = true := by
        rw [List.all_eq_true]
        intro x hx
        obtain ⟨j, hj, rfl⟩ := List.getElem_of_mem hx
        have := HV.out j (by rw [HN.out]; exact hj)
        unfold arg3 at this
        rwa [List.getD_eq_getElem?_getD, List.getElem?_eq_getElem hj] at this
      have herr : doErr o l = (resultS o (kindsOf l)).2 := by unfold doErr; rw [if_pos hall]
      have hks : (kindsOf l).length = i := by rw [HN.out]; simp [kindsOf]
      have hC := HM2.out
      rw [isC_end l i HN.out] at hC
      have HCB := Aside0.mk (C_bool_blk hC (by rw [hks]; omega))
      have HE := Aside0.mk herr
      have HKS := Aside0.mk hks
      clear hall herr hC hks HV HM2
      obtain ⟨rb, hrb⟩ : ∃ b, b = (resultS o (kindsOf l)).1 := ⟨_, rfl⟩
      obtain ⟨re, hre⟩ : ∃ b, b = (resultS o (kindsOf l)).2 := ⟨_, rfl⟩
      have HRES := Aside0.mk (value_Result.any o (some ⟨w.heap.size + 1, 0, none⟩) i (kindsOf l) wr HCB.out)
      rw [HKS.out, ← hrb, ← hre] at HRES
      have HRE := Aside0.mk hre
      clear hrb hre
      by_cases h0 : re = 0
      · subst h0
        have hop := resultS_len HRE.out.symm
        have hnl := takes_len o hop.1
        have hi3 : i ≤ 3 := by rw [← HKS.out, hop.2]; exact hnl.2
        have HOP := Aside0.mk hop.1
        have herr : doErr o l = 0 := by rw [HE.out, ← HRE.out]
        have HERR := Aside0.mk herr
        clear hop hnl herr HE HKS HCB HRE
        go_wp2_with (first
          | (go_at_call 88; refine HRES.out.mono ?_; rintro e w1 ⟨rfl, hb⟩; have HMa := Aside0.mk (blk_below HM1.out hb); have HBa := Aside0.mk (below_step HB.out hb); clear hb))
        clear HM1 HB HRES
        obtain ⟨gl, hgl⟩ : ∃ gl, gl = w1.heap.size := ⟨_, rfl⟩
        have hglw : w.heap.size < gl := by rw [hgl]; exact Nat.lt_of_lt_of_le (blk_lt HMa.out) (Nat.le_refl _)
        have HA0 := Aside0.mk (show (w1.alloc (.cells (arrC l 0) 146)).heap[gl]? = some (.cells (arrC l 0) 146 (0, 0)) from by rw [hgl]; exact blk_new _ _)
        rw [← hgl]
        clear hgl
        go_loopg [46] i (fun kq v46 W => ∃ k : Nat, v46 = .int .i64 k ∧ k ≤ i ∧ i - k ≤ kq ∧ Aside0 (Below w.heap.size w W) ∧
          Aside0 (W.heap[w.heap.size]? = some (.cells #[.bool false, .int .i64 0, .string ⟨#[]⟩] 24 (0, 0))) ∧ Aside0 (W.heap[gl]? = some (.cells (arrC l k) 146 (0, 0))))
        case atStart => exact ⟨0, rfl, by omega, by omega, ⟨below_alloc HBa.out _⟩, ⟨blk_alloc HMa.out _⟩, HA0⟩
        case round =>
          clear HA0 HMa HBa
          obtain ⟨k, rfl, hk, hkk, HB, HM1, HA⟩ := hrel
          by_cases hlt : k < i
          · obtain ⟨ad, ea, x0, x1, x2⟩ := at_T24 HR.out (k : Int) (by omega) (by rw [← HN.out]; omega)
            subst ea
            rw [show rd_T24 l (k : Int) = arg3 l k from by simp [rd_T24, arg3]] at x0 x1 x2
            simp only [Int.toNat_natCast] at x0 x1 x2
            replace x0 := pw_cell_below HB.out x0
            replace x1 := (HB.out.cell (World.block_lt_of_cell? w _ x1)).trans x1
            replace x2 := (HB.out.cell (World.block_lt_of_cell? w _ x2)).trans x2
            have hset := Aside0.mk (arrC_set l k (by omega))
            generalize arg3 l k = X at x0 x1 x2 hset
            have hsz : (arrC l k).size = 9 := rfl
            have f0 : ∀ ob, ((wr.alloc ob).cell? ⟨gl, k * 3, none⟩) = some ((arrC l k)[k * 3]'(by omega)) := fun ob => (blk_cell (blk_alloc HA.out ob) _).trans (Array.getElem?_eq_getElem _)
            have f1 : ∀ ob, ((wr.alloc ob).cell? ⟨gl, k * 3 + 1, none⟩) = some ((arrC l k)[k * 3 + 1]'(by omega)) := fun ob => (blk_cell (blk_alloc HA.out ob) _).trans (Array.getElem?_eq_getElem _)
            have f2 : ∀ ob, ((wr.alloc ob).cell? ⟨gl, k * 3 + 2, none⟩) = some ((arrC l k)[k * 3 + 2]'(by omega)) := fun ob => (blk_cell (blk_alloc HA.out ob) _).trans (Array.getElem?_eq_getElem _)
            generalize (arrC l k)[k * 3]'(by omega) = y0 at f0
            generalize (arrC l k)[k * 3 + 1]'(by omega) = y1 at f1
            generalize (arrC l k)[k * 3 + 2]'(by omega) = y2 at f2
            have z0 : ∀ ob, (wr.alloc ob).frozen? ⟨gl, k * 3, none⟩ = false := fun ob => blk_frozen (blk_alloc HA.out ob) _
            have z1 : ∀ ob, (wr.alloc ob).frozen? ⟨gl, k * 3 + 1, none⟩ = false := fun ob => blk_frozen (blk_alloc HA.out ob) _
            have z2 : ∀ ob, (wr.alloc ob).frozen? ⟨gl, k * 3 + 2, none⟩ = false := fun ob => blk_frozen (blk_alloc HA.out ob) _
            clear hsz
            go_wp2
            go_roundg (gk - 1)
            case rel =>
              refine ⟨k + 1, by go_num, by omega, by omega, ⟨below_set (below_set (below_set (below_alloc HB.out _) (by omega)) (by omega)) (by omega)⟩, ⟨blk_far (blk_far (blk_far (blk_alloc HM1.out _) (by simp; omega) _) (by simp; omega) _) (by simp; omega) _⟩, ⟨?_⟩⟩
              rw [← hset.out]
              exact blk_set (blk_set (blk_set (blk_alloc HA.out _) _ _) _ _) _ _
            case measure => omega
          · obtain rfl : k = i := by omega
            clear hlt hkk hk hi3
            have e0 : arrQ l k 0 = arg3 l 0 := by rw [HN.out]; exact arrQ_end l 0
            have e1 : arrQ l k 1 = arg3 l 1 := by rw [HN.out]; exact arrQ_end l 1
            have e2 : arrQ l k 2 = arg3 l 2 := by rw [HN.out]; exact arrQ_end l 2
            have hcall := Aside0.mk (show ∀ W, Below w.heap.size w W → Calls Tryz.prog (fnOf o) #[vval (arg3 l 0), vval (arg3 l 1), vval (arg3 l 2)] W fun e w' => e = .returned (.agg #[.bool r.f0, .int .i64 r.f1, .string r.f2]) ∧ Below W.heap.size W w' from fun W hW => HD.out HERR.out W hW)
            have hA := HA.out
            unfold arrC at hA
            rw [e0, e1, e2] at hA
            clear e0 e1 e2 HA HD
            generalize arg3 l 0 = X at hA hcall
            generalize arg3 l 1 = Y at hA hcall
            generalize arg3 l 2 = Z at hA hcall
            have HA := Aside0.mk hA
            have c0 : wr.cell? ⟨gl, 0, none⟩ = some (.bool X.f0) := blk_cell hA 0
            have c1 : wr.cell? ⟨gl, 1, none⟩ = some (.int .i64 X.f1) := blk_cell hA 1
            have c2 : wr.cell? ⟨gl, 2, none⟩ = some (.string X.f2) := blk_cell hA 2
            have c3 : wr.cell? ⟨gl, 3, none⟩ = some (.bool Y.f0) := blk_cell hA 3
            have c4 : wr.cell? ⟨gl, 4, none⟩ = some (.int .i64 Y.f1) := blk_cell hA 4
            have c5 : wr.cell? ⟨gl, 5, none⟩ = some (.string Y.f2) := blk_cell hA 5
            have c6 : wr.cell? ⟨gl, 6, none⟩ = some (.bool Z.f0) := blk_cell hA 6
            have c7 : wr.cell? ⟨gl, 7, none⟩ = some (.int .i64 Z.f1) := blk_cell hA 7
            have c8 : wr.cell? ⟨gl, 8, none⟩ = some (.string Z.f2) := blk_cell hA 8
            clear hA
            have hfe := fn_enters o HOP.out
            have hfd := field_does
            have hfar : ∀ (W : World) (j : Nat) (u : Value) (i : Nat), (W.setCell ⟨w.heap.size, j, none⟩ u).cell? ⟨gl, i, none⟩ = W.cell? ⟨gl, i, none⟩ := fun W j u i => cell_far (by simp; omega) _
            go_wp2_with fail
            go_region_held3 (fun W => W.cell? ⟨gl, 0, none⟩ = some (.bool X.f0) ∧ W.cell? ⟨gl, 1, none⟩ = some (.int .i64 X.f1) ∧ W.cell? ⟨gl, 2, none⟩ = some (.string X.f2) ∧ W.cell? ⟨gl, 3, none⟩ = some (.bool Y.f0) ∧ W.cell? ⟨gl, 4, none⟩ = some (.int .i64 Y.f1) ∧ W.cell? ⟨gl, 5, none⟩ = some (.string Y.f2) ∧ W.cell? ⟨gl, 6, none⟩ = some (.bool Z.f0) ∧ W.cell? ⟨gl, 7, none⟩ = some (.int .i64 Z.f1) ∧ W.cell? ⟨gl, 8, none⟩ = some (.string Z.f2))
              (first | go_keep)
              ((first
                | (go_at_call 89; refine (ops_look _ o HOP.out).mono ?_; rintro e w1 ⟨m, rfl, hb, hl⟩; have hl1 := hl w1 (Below.refl _ _); unfold opVal at hl1; have HB1 := Aside0.mk (below_step (below_drew1 HB.out) hb); have HM2 := Aside0.mk (blk_below (blk_drew HM1.out) hb); have HA2 := Aside0.mk (blk_below (blk_drew HA.out) hb); clear hb hl c0 c1 c2 c3 c4 c5 c6 c7 c8
                   have c0 : w1.cell? ⟨gl, 0, none⟩ = some (.bool X.f0) := blk_cell HA2.out 0; have c1 : w1.cell? ⟨gl, 1, none⟩ = some (.int .i64 X.f1) := blk_cell HA2.out 1; have c2 : w1.cell? ⟨gl, 2, none⟩ = some (.string X.f2) := blk_cell HA2.out 2; have c3 : w1.cell? ⟨gl, 3, none⟩ = some (.bool Y.f0) := blk_cell HA2.out 3; have c4 : w1.cell? ⟨gl, 4, none⟩ = some (.int .i64 Y.f1) := blk_cell HA2.out 4; have c5 : w1.cell? ⟨gl, 5, none⟩ = some (.string Y.f2) := blk_cell HA2.out 5; have c6 : w1.cell? ⟨gl, 6, none⟩ = some (.bool Z.f0) := blk_cell HA2.out 6; have c7 : w1.cell? ⟨gl, 7, none⟩ = some (.int .i64 Z.f1) := blk_cell HA2.out 7; have c8 : w1.cell? ⟨gl, 8, none⟩ = some (.string Z.f2) := blk_cell HA2.out 8)
                | (refine (hcall.out _ HB1.out).mono ?_; rintro e w2 ⟨rfl, hb⟩; have HB2 := Aside0.mk (below_step HB1.out hb); have HM3 := Aside0.mk (blk_below HM2.out hb); have HA3 := Aside0.mk (blk_below HA2.out hb); clear hb c0 c1 c2 c3 c4 c5 c6 c7 c8
                   have c0 : w2.cell? ⟨gl, 0, none⟩ = some (.bool X.f0) := blk_cell HA3.out 0; have c1 : w2.cell? ⟨gl, 1, none⟩ = some (.int .i64 X.f1) := blk_cell HA3.out 1; have c2 : w2.cell? ⟨gl, 2, none⟩ = some (.string X.f2) := blk_cell HA3.out 2; have c3 : w2.cell? ⟨gl, 3, none⟩ = some (.bool Y.f0) := blk_cell HA3.out 3; have c4 : w2.cell? ⟨gl, 4, none⟩ = some (.int .i64 Y.f1) := blk_cell HA3.out 4; have c5 : w2.cell? ⟨gl, 5, none⟩ = some (.string Y.f2) := blk_cell HA3.out 5; have c6 : w2.cell? ⟨gl, 6, none⟩ = some (.bool Z.f0) := blk_cell HA3.out 6; have c7 : w2.cell? ⟨gl, 7, none⟩ = some (.int .i64 Z.f1) := blk_cell HA3.out 7; have c8 : w2.cell? ⟨gl, 8, none⟩ = some (.string Z.f2) := blk_cell HA3.out 8
                   have g0 : w2.cell? ⟨w.heap.size, 0, none⟩ = some (.bool false) := blk_cell HM3.out 0
                   have g1 : w2.cell? ⟨w.heap.size, 1, none⟩ = some (.int .i64 0) := blk_cell HM3.out 1
                   have g2 : w2.cell? ⟨w.heap.size, 2, none⟩ = some (.string ⟨#[]⟩) := blk_cell HM3.out 2
                   have f0 := blk_frozen HM3.out 0
                   have f1 := blk_frozen HM3.out 1
                   have f2 := blk_frozen HM3.out 2)))
            go_wp2
            refine bodyPost_ret (v := .tuple #[.agg #[.bool r.f0, .int .i64 r.f1, .string r.f2], .int .i64 0]) ?_ rfl ⟨?_, below_set (below_set (below_set HB2.out (Nat.le_refl _)) (Nat.le_refl _)) (Nat.le_refl _)⟩
            · simp [results, Tryz.results78, go_sem, g0, g1, g2]
            · rw [doVal_yes HERR.out, HERR.out]; rfl
      · have h0' : (re != 0) = true := by simpa using h0
        go_wp2_with (first
          | (go_at_call 88; refine HRES.out.mono ?_; rintro e w1 ⟨rfl, hb⟩; have HMa := Aside0.mk (blk_below HM1.out hb); have HBa := Aside0.mk (below_step HB.out hb); clear hb
             have g0 : w1.cell? ⟨w.heap.size, 0, none⟩ = some (.bool false) := blk_cell HMa.out 0
             have g1 : w1.cell? ⟨w.heap.size, 1, none⟩ = some (.int .i64 0) := blk_cell HMa.out 1
             have g2 : w1.cell? ⟨w.heap.size, 2, none⟩ = some (.string ⟨#[]⟩) := blk_cell HMa.out 2
             have f0 := blk_frozen HMa.out 0
             have f1 := blk_frozen HMa.out 1
             have f2 := blk_frozen HMa.out 2))
        have herr : doErr o l = re := by rw [HE.out, HRE.out]
        refine bodyPost_ret (v := .tuple #[.agg #[.bool false, .int .i64 0, .string ⟨#[]⟩], .int .i64 re]) ?_ rfl ⟨?_, below_set (below_set (below_set HBa.out (Nat.le_refl _)) (Nat.le_refl _)) (Nat.le_refl _)⟩
        · simp [results, Tryz.results78, go_sem, g0, g1, g2]
        · rw [doVal_no herr h0, herr]
end Go.Proofs.YtjgmkimekipgmaaGreatDoor.G
