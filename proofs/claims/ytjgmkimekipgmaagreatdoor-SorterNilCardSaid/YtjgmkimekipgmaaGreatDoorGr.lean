/- sorter.Groups: how many groups there are. -/
import Derived.Test.YtjgmkimekipgmaaGreatDoorBn
import Derived.Deep.RegionLaw
namespace Go.Proofs.YtjgmkimekipgmaaGreatDoor.G
open Go.RowKit Go.Sort Go.Proofs.YtjgmkimekipgmaaGreatDoorW.PrintWords Go.Proofs.YtjgmkimekipgmaaGreatDoorW.PrintLast Go.Proofs.YtjgmkimekipgmaaGreatDoorW.PrintMore
set_option linter.unusedVariables false
set_option linter.unusedSimpArgs false

/-- does a group begin at place i? -/
def gnew (l : List S44) (i : Nat) : Bool := decide (i = 0) || !((rd_T44 l ((i - 1 : Nat) : Int)).f0.toList == (rd_T44 l (i : Int)).f0.toList)
def gcnt (l : List S44) : Nat → Nat
  | 0 => 0
  | i + 1 => if gnew l i = true then gcnt l i + 1 else gcnt l i
theorem gcnt_le (l : List S44) (i : Nat) : gcnt l i ≤ i ∧ (0 < i → 0 < gcnt l i) := by
  induction i with
  | zero => simp [gcnt]
  | succ i ih =>
    unfold gcnt
    split
    · omega
    · rename_i h
      rcases i with _ | i
      · simp [gnew] at h
      · omega
/-- the state of the rounds -/
def Gst (w W : World) (v : Value) (n i : Nat) : Prop :=
  ∃ cs, W.ownsRow w.heap.size 68 2 v n cs ∧ (0 < i → ∃ inner K u vs, cs = inner ++ [.string K, u] ∧ vs.length ≤ i ∧ Kd.R k24 24 W w.heap.size (fun _ => True) u vs) ∧ Below w.heap.size w W

theorem og_cell {W : World} {base g cap m : Nat} {inner : List Value} {K : ByteArray} {u : Value} (h : W.ownsRow base 68 2 (.slice (some ⟨g, 0, none⟩) (m + 1) cap) (m + 1) (inner ++ [.string K, u])) :
    W.cell? ⟨g, m * 2 + 1, none⟩ = some u ∧ W.frozen? ⟨g, m * 2 + 1, none⟩ = false ∧ inner.length = m * 2 ∧ ∃ cells, W.heap[g]? = some (.cells cells 68 (0, 0)) := by
  have hl : inner.length = m * 2 := by have := h.1; simp at this; omega
  rcases h.2 with ⟨h', _⟩ | ⟨g', cap', cur, h', _, hh, hnc, hcm, hcs, ht⟩
  · cases h'
  · injection h' with h1 h2 h3
    injection h1 with h1
    injection h1 with h1
    subst h1
    refine ⟨?_, blk_frozen hh _, hl, cur, hh⟩
    rw [blk_cell hh]
    have e : (cur.toList.take ((m + 1) * 2))[m * 2 + 1]? = some u := by
      rw [ht, ← hl]
      simp
    rw [List.getElem?_take_of_lt (by omega)] at e
    simpa using e
theorem Gst_next {w W : World} {g cap m i : Nat} {inner : List Value} {K : ByteArray} {u v1 : Value} {vs : List S24} (h : W.ownsRow w.heap.size 68 2 (.slice (some ⟨g, 0, none⟩) (m + 1) cap) (m + 1) (inner ++ [.string K, u]))
    (hu : Kd.R k24 24 W w.heap.size (fun _ => True) v1 vs) (hv : vs.length ≤ i) (hb : Below w.heap.size w W) : Gst w (W.setCell ⟨g, m * 2 + 1, none⟩ v1) (.slice (some ⟨g, 0, none⟩) (m + 1) cap) (m + 1) i := by
  obtain ⟨_, _, hl, cells, hc⟩ := og_cell h
  have hs := h.stored (m * 2 + 1) v1
  have e : (inner ++ [.string K, u]).set (m * 2 + 1) v1 = inner ++ [.string K, v1] := by
    rw [List.set_append_right _ _ (by omega), hl, show m * 2 + 1 - m * 2 = 1 by omega]
    rfl
  rw [e] at hs
  refine ⟨_, hs.1, fun _ => ⟨inner, K, v1, vs, rfl, hv, Kd.R_set hu hc (fun q hq => ?_) _ _⟩, below_set hb (own_base h g rfl)⟩
  simp [k24, Kd.iso, Kd.pair, Kd.bool, Kd.int, Kd.string, Kd.scalar] at hq
  omega

attribute [local irreducible] wpQuiet
set_option maxRecDepth 100000 in
set_option maxHeartbeats 4000000 in
theorem groups_len (j : JC) (A : Option Addr) (c : Nat) (l : List S44) (w : World) (hr : Kd.C k44 w A l.length l) (hc : l.length ≤ c) (hl : l.length ≤ 1000000) :
    Calls Tryz.prog 32 #[.agg j.arr, .slice A l.length c] w fun e w' => ∃ A' c', e = .returned (.slice A' (gcnt l l.length) c') ∧ Below w.heap.size w w' := by
  have HR := Aside0.mk hr
  clear hr hc
  have info68 : (Tryz.prog.info? 68).map (fun i => (i.zero, i.size, i.bytes)) = some (some (.agg #[.string ⟨#[]⟩, .slice none 0 0]), 2, 40) := by kernel_rfl
  have two_cells : ∀ {x : ByteArray}, ∀ u ∈ [Value.string x, Value.slice none 0 0], u.oneCell' = true := fun u hu => by
    simp only [List.mem_cons, List.not_mem_nil, or_false] at hu
    rcases hu with rfl | rfl <;> rfl
  have HS := Aside0.mk (show ∀ J, Gst w (w.alloc J) (.slice none 0 0) 0 0 from fun J => ⟨[], own_nil _ _ _ _, fun h => absurd h (by omega), below_alloc (Below.refl _ _) _⟩)
  generalize hja : JcArr j = ja
  rw [show j.arr = JcArr j from rfl, hja]
  go_enter Tryz.func32, Tryz.ntmps32
  go_wp2
  go_loopg [5, 11] l.length (fun kq v5 v11 W => ∃ i : Nat, v11 = .int .i64 i ∧ i ≤ l.length ∧ l.length - i ≤ kq ∧ Aside0 (Gst w W v5 (gcnt l i) i))
  case atStart => exact ⟨0, rfl, by omega, by omega, ⟨HS.out _⟩⟩
  case round =>
    clear HS
    obtain ⟨i, rfl, hi, hik, HG⟩ := hrel
    by_cases hlt : i < l.length
    · have p0 : (0 : Int) ≤ (i : Int) := by omega
      have q0 : (i : Int) < (l.length : Int) := by omega
      obtain ⟨ad, e1, x0, x1, x2, x3⟩ := at_T44 HR.out (i : Int) p0 q0
      subst e1
      have HB := Aside0.mk HG.out.choose_spec.2.2
      have L : ∀ {a : Addr} {v : Value}, w.cell? a = some v → wr.cell? a = some v := fun h => (HB.out.cell (World.block_lt_of_cell? w _ h)).trans h
      simp only [Int.toNat_natCast] at x0 x1 x2 x3
      have X0 := L x0
      have X1 := L x1
      have X2 := L x2
      have X3 := L x3
      clear x0 x1 x2 x3 L
      have HXe := Aside0.mk (show rd_T44 l (i : Int) = rd_T44 l (i : Int) from rfl)
      generalize hX : rd_T44 l (i : Int) = X at X0 X1 X2 X3
      go_wp2
      generalize hW1 : wr.alloc (Obj.cells #[Value.string X.f0, Value.bool X.f1.f0, Value.int IntKind.i64 X.f1.f1, Value.string X.f1.f2] 44) = W1
      have HX1 := Aside0.mk (show W1.heap[wr.heap.size]? = some (.cells #[Value.string X.f0, Value.bool X.f1.f0, Value.int IntKind.i64 X.f1.f1, Value.string X.f1.f2] 44 (0, 0)) from by rw [← hW1]; exact blk_new _ _)
      have HB1 := Aside0.mk (show Below wr.heap.size wr W1 from by rw [← hW1]; exact below_alloc (Below.refl _ _) _)
      clear hW1 X0 X1 X2 X3
      have Z0 : ∀ W, Below W1.heap.size W1 W → W.cell? ⟨wr.heap.size, 0, none⟩ = some (.string X.f0) := fun W hW => blk_cell (blk_below HX1.out hW) 0
      obtain ⟨cs, ho, hu, hb⟩ := HG.out
      obtain ⟨m, hm⟩ : ∃ m, m = gcnt l i := ⟨_, rfl⟩
      rw [← hm] at ho
      have hmi : m ≤ i := by rw [hm]; exact (gcnt_le l i).1
      have HM := Aside0.mk hm
      clear hm HG
      by_cases hz : i = 0
      · subst hz
        refine wp_region_quiet (C := Below W1.heap.size W1) (by kernel_rfl) (by kernel_rfl) (below_drew1 (Below.refl _ _)) ?_
        iterate 3 (
          refine q_step (by rfl) ?_ (fun W hW => ?_) ?_
          rotate_left
          · unfold Oper.quietAt; go_simp; rfl
          simp only [Act.put, List.setIfInBounds_toArray, List.set_cons_zero, List.set_cons_succ])
        iterate 9 (
          refine q_skip (by rfl) ?_
          simp only [Act.put, List.setIfInBounds_toArray, List.set_cons_zero, List.set_cons_succ])
        refine q_step (by rfl) ?_ (fun W hW => ?_) ?_
        rotate_left
        · unfold Oper.quietAt; go_simp; rfl
        simp only [Act.put, List.setIfInBounds_toArray, List.set_cons_zero, List.set_cons_succ]
        refine wpQuiet_nil ?_
        intro W hW
        have hbw := HB1.out.trans (hW.mono HB1.out.size)
        have HO := Aside0.mk (pw_own_below ho hbw)
        have HBW := Aside0.mk (hb.trans (hbw.mono hb.size))
        have HX := Aside0.mk (blk_below HX1.out hW)
        have c0 := Z0 W hW
        have HU := Aside0.mk (show Kd.R k24 24 W w.heap.size (fun _ => True) (.slice none 0 0) [] from Kd.R_nil _ _ _ _ _)
        clear hW Z0
        go_wp2_with ((with_reducible refine gate_builtin (b := .append) (xs := #[.tmp 29, .tmp 33]) rfl ?_); at_builtin; refine print_append_cells (w0 := w) w.heap.size rfl (.tmp 29) (.tmp 33) 64 68 (.agg #[.string ⟨#[]⟩, .slice none 0 0]) 2 40 rfl Tryz.underlying64 info68 rfl (by decide) (by omega) u5 m cs [.string X.f0, .slice none 0 0] rfl rfl rfl two_cells HO.out HBW.out HBW.out.size (by omega) ?_
                     intro v1 w2 hown hb2 hgr hat
                     have HXE := Aside0.mk (blk_grown HX.out hgr (own_ne HO.out HX.out (by decide)))
                     obtain ⟨g, cap, rfl, _, _⟩ := hown.form (by omega)
                     have HOE := Aside0.mk hown
                     have HBE := Aside0.mk hb2
                     clear hown hb2 hgr hat c0)
        have HUE := Aside0.mk (show Kd.R k24 24 w2 w.heap.size (fun _ => True) (.slice none 0 0) [] from Kd.R_nil _ _ _ _ _)
        have HVL := Aside0.mk (show ([] : List S24).length ≤ 0 from Nat.le_refl _)
        have HE := Aside0.mk (show gcnt l 1 = m + 1 by rw [HM.out]; simp [gcnt, gnew])
        obtain ⟨cO, fO, _, cells, hcells⟩ := og_cell HOE.out
        clear hcells
        have c1 : w2.cell? ⟨wr.heap.size, 1, none⟩ = some (.bool X.f1.f0) := blk_cell HXE.out 1
        have c2 : w2.cell? ⟨wr.heap.size, 2, none⟩ = some (.int .i64 X.f1.f1) := blk_cell HXE.out 2
        have c3 : w2.cell? ⟨wr.heap.size, 3, none⟩ = some (.string X.f1.f2) := blk_cell HXE.out 3
        go_wp2_with fail
        go_region_law
          ((first
            | (refine Kd.R_append_step k24 (w0 := w) w.heap.size (by rfl) (.tmp 44) (.tmp 47) 66 24 (.agg #[.bool false, .int .i64 0, .string ⟨#[]⟩]) 32 rfl Tryz.underlying66 info24 rfl (by decide) (by omega) (.slice none 0 0) ([]) X.f1 [.bool X.f1.f0, .int .i64 X.f1.f1, .string X.f1.f2] (fun _ => True) (fun _ => False) rfl rfl (k24_mkM _ _ _ _) (fun _ hk => hk.elim) (fun _ _ => trivial) (Kd.R_drew HUE.out) (below_drew1 HBE.out) (below_drew1 HBE.out).size (by have := HVL.out; simp only [List.length_nil] at *; omega) ?_
               intro v1 w3 ho3 hb3 hg3 hat3
               obtain ⟨A3, c9, rfl⟩ := Kd.R_slice ho3
               obtain ⟨iu, hiu⟩ := Kd.R_own HUE.out
               have HO3 := Aside0.mk (own_other (show (World.drew w2).ownsRow _ _ _ _ _ _ from HOE.out) hg3 (own_type_ne HOE.out hiu (by decide)))
               have HX3 := Aside0.mk (blk_grown (blk_drew HXE.out) hg3 (own_ne hiu HXE.out (by decide)))
               have HU3 := Aside0.mk ho3
               have HB3 := Aside0.mk hb3
               clear ho3 hb3 hg3 hat3 hiu cO fO c1 c2 c3
               have d0 := (og_cell HO3.out).1
               have f0 := (og_cell HO3.out).2.1
               have d1 : w3.cell? ⟨wr.heap.size, 1, none⟩ = some (.bool X.f1.f0) := blk_cell HX3.out 1
               have d2 : w3.cell? ⟨wr.heap.size, 2, none⟩ = some (.int .i64 X.f1.f1) := blk_cell HX3.out 2
               have d3 : w3.cell? ⟨wr.heap.size, 3, none⟩ = some (.string X.f1.f2) := blk_cell HX3.out 3)))
        all_goals
          go_wp2
          go_roundg (gk - 1)
          (case rel => exact ⟨1, by go_num, hlt, Nat.sub_le_sub_right hik 1, ⟨by rw [HE.out]; exact Gst_next HO3.out HU3.out (Nat.le_refl 1) HB3.out⟩⟩)
          (case measure => omega)
      · obtain ⟨q, rfl⟩ : ∃ q, i = q + 1 := ⟨i - 1, by omega⟩
        have p1 : (0 : Int) ≤ (q : Int) := by omega
        have q1 : (q : Int) < (l.length : Int) := by omega
        obtain ⟨ad', e0, y0, _, _, _⟩ := at_T44 HR.out (q : Int) p1 q1
        injection e0 with e0
        subst e0
        simp only [Int.toNat_natCast] at y0
        have wq : IntKind.i64.wrap (q : Int) = (q : Int) := by rw [i64_w]; unfold wrap64; omega
        generalize hY : rd_T44 l (q : Int) = Y at y0
        have Y0 : ∀ W, Below W1.heap.size W1 W → W.cell? (ad.add (q * 4)) = some (.string Y.f0) := fun W hW => by
          have hb := HB.out.trans (HB1.out.mono HB.out.size)
          have hb2 := hb.trans (hW.mono hb.size)
          exact (hb2.cell (World.block_lt_of_cell? w _ y0)).trans y0
        refine wp_region_quiet (C := Below W1.heap.size W1) (by kernel_rfl) (by kernel_rfl) (below_drew1 (Below.refl _ _)) ?_
        iterate 13 (
          refine q_step (by rfl) ?_ (fun W hW => ?_) ?_
          rotate_left
          · unfold Oper.quietAt; go_simp; rfl
          simp only [Act.put, List.setIfInBounds_toArray, List.set_cons_zero, List.set_cons_succ])
        refine wpQuiet_nil ?_
        intro W hW
        have hX' : rd_T44 l ((q : Int) + 1) = X := hX
        have pz : ((q : Int) + 1 == 0) = false := by
          simp only [beq_eq_false_iff_ne, ne_eq]
          omega
        by_cases hk : (Y.f0.toList == X.f0.toList) = true
        · rw [show ((q : Int) + 1 == 0 || !Y.f0.toList == X.f0.toList) = false from by rw [hk, pz]; rfl]
          have hbw := HB1.out.trans (hW.mono HB1.out.size)
          have HO := Aside0.mk (pw_own_below ho hbw)
          have HBW := Aside0.mk (hb.trans (hbw.mono hb.size))
          have HX := Aside0.mk (blk_below HX1.out hW)
          have c0 := Z0 W hW
          obtain ⟨inner, K, u, vs, rfl, hvs, hu⟩ := hu (by omega)
          have HU := Aside0.mk (Kd.R_below hu hbw)
          have HVL := Aside0.mk hvs
          clear hW Z0 hu hvs
          obtain ⟨m0, rfl⟩ : ∃ m0, m = m0 + 1 := ⟨m - 1, by have := (gcnt_le l (q + 1)).2 (by omega); have := HM.out; omega⟩
          obtain ⟨g, cap, rfl, _, _⟩ := HO.out.form (by omega)
          obtain ⟨w2, rfl⟩ : ∃ w2, w2 = W := ⟨_, rfl⟩
          have HOE := HO
          have HUE := HU
          have HXE := HX
          have HBE := HBW
          have HE := Aside0.mk (show gcnt l (q + 1 + 1) = m0 + 1 by rw [gcnt, if_neg (by simp [gnew, hX', hY, hk]), HM.out])
          clear HO HU HX HBW c0
          have wm : IntKind.i64.wrap (m0 : Int) = (m0 : Int) := by rw [i64_w]; unfold wrap64; omega
          obtain ⟨cO, fO, _, cells, hcells⟩ := og_cell HOE.out
          clear hcells
          have c1 : w2.cell? ⟨wr.heap.size, 1, none⟩ = some (.bool X.f1.f0) := blk_cell HXE.out 1
          have c2 : w2.cell? ⟨wr.heap.size, 2, none⟩ = some (.int .i64 X.f1.f1) := blk_cell HXE.out 2
          have c3 : w2.cell? ⟨wr.heap.size, 3, none⟩ = some (.string X.f1.f2) := blk_cell HXE.out 3
          go_wp2_with fail
          go_region_law
            ((first
              | (refine Kd.R_append_step k24 (w0 := w) w.heap.size (by rfl) (.tmp 44) (.tmp 47) 66 24 (.agg #[.bool false, .int .i64 0, .string ⟨#[]⟩]) 32 rfl Tryz.underlying66 info24 rfl (by decide) (by omega) u vs X.f1 [.bool X.f1.f0, .int .i64 X.f1.f1, .string X.f1.f2] (fun _ => True) (fun _ => False) rfl rfl (k24_mkM _ _ _ _) (fun _ hk => hk.elim) (fun _ _ => trivial) (Kd.R_drew HUE.out) (below_drew1 HBE.out) (below_drew1 HBE.out).size (by have := HVL.out; omega) ?_
                 intro v1 w3 ho3 hb3 hg3 hat3
                 obtain ⟨A3, c9, rfl⟩ := Kd.R_slice ho3
                 rw [show (vs ++ [X.f1]).length = vs.length + 1 from by simp] at ho3
                 obtain ⟨iu, hiu⟩ := Kd.R_own HUE.out
                 have HO3 := Aside0.mk (own_other (show (World.drew w2).ownsRow _ _ _ _ _ _ from HOE.out) hg3 (own_type_ne HOE.out hiu (by decide)))
                 have HX3 := Aside0.mk (blk_grown (blk_drew HXE.out) hg3 (own_ne hiu HXE.out (by decide)))
                 have HU3 := Aside0.mk ho3
                 have HB3 := Aside0.mk hb3
                 clear ho3 hb3 hg3 hat3 hiu cO fO c1 c2 c3
                 have d0 := (og_cell HO3.out).1
                 have f0 := (og_cell HO3.out).2.1
                 have d1 : w3.cell? ⟨wr.heap.size, 1, none⟩ = some (.bool X.f1.f0) := blk_cell HX3.out 1
                 have d2 : w3.cell? ⟨wr.heap.size, 2, none⟩ = some (.int .i64 X.f1.f1) := blk_cell HX3.out 2
                 have d3 : w3.cell? ⟨wr.heap.size, 3, none⟩ = some (.string X.f1.f2) := blk_cell HX3.out 3)))
          all_goals
            go_wp2
            go_roundg (gk - 1)
            (case rel => exact ⟨q + 1 + 1, by go_num, hlt, Nat.sub_le_sub_right hik 1, ⟨by rw [HE.out]; exact Gst_next HO3.out HU3.out (by rw [List.length_append]; exact Nat.succ_le_succ HVL.out) HB3.out⟩⟩)
            (case measure => clear wq wm; omega)
        · have hk : (Y.f0.toList == X.f0.toList) = false := by simpa using hk
          rw [show ((q : Int) + 1 == 0 || !Y.f0.toList == X.f0.toList) = true from by rw [hk, pz]; rfl]
          have hbw := HB1.out.trans (hW.mono HB1.out.size)
          have HO := Aside0.mk (pw_own_below ho hbw)
          have HBW := Aside0.mk (hb.trans (hbw.mono hb.size))
          have HX := Aside0.mk (blk_below HX1.out hW)
          have c0 := Z0 W hW
          have HU := Aside0.mk (show Kd.R k24 24 W w.heap.size (fun _ => True) (.slice none 0 0) [] from Kd.R_nil _ _ _ _ _)
          clear hW Z0
          go_wp2_with ((with_reducible refine gate_builtin (b := .append) (xs := #[.tmp 29, .tmp 33]) rfl ?_); at_builtin; refine print_append_cells (w0 := w) w.heap.size rfl (.tmp 29) (.tmp 33) 64 68 (.agg #[.string ⟨#[]⟩, .slice none 0 0]) 2 40 rfl Tryz.underlying64 info68 rfl (by decide) (by omega) u5 m cs [.string X.f0, .slice none 0 0] rfl rfl rfl two_cells HO.out HBW.out HBW.out.size (by omega) ?_
                       intro v1 w2 hown hb2 hgr hat
                       have HXE := Aside0.mk (blk_grown HX.out hgr (own_ne HO.out HX.out (by decide)))
                       obtain ⟨g, cap, rfl, _, _⟩ := hown.form (by omega)
                       have HOE := Aside0.mk hown
                       have HBE := Aside0.mk hb2
                       clear hown hb2 hgr hat c0)
          have HUE := Aside0.mk (show Kd.R k24 24 w2 w.heap.size (fun _ => True) (.slice none 0 0) [] from Kd.R_nil _ _ _ _ _)
          have HVL := Aside0.mk (show ([] : List S24).length ≤ 0 from Nat.le_refl _)
          have HE := Aside0.mk (show gcnt l (q + 1 + 1) = m + 1 by rw [HM.out, gcnt, if_pos (by simp [gnew, hX', hY, hk])])
          obtain ⟨cO, fO, _, cells, hcells⟩ := og_cell HOE.out
          clear hcells
          have c1 : w2.cell? ⟨wr.heap.size, 1, none⟩ = some (.bool X.f1.f0) := blk_cell HXE.out 1
          have c2 : w2.cell? ⟨wr.heap.size, 2, none⟩ = some (.int .i64 X.f1.f1) := blk_cell HXE.out 2
          have c3 : w2.cell? ⟨wr.heap.size, 3, none⟩ = some (.string X.f1.f2) := blk_cell HXE.out 3
          go_wp2_with fail
          go_region_law
            ((first
              | (refine Kd.R_append_step k24 (w0 := w) w.heap.size (by rfl) (.tmp 44) (.tmp 47) 66 24 (.agg #[.bool false, .int .i64 0, .string ⟨#[]⟩]) 32 rfl Tryz.underlying66 info24 rfl (by decide) (by omega) (.slice none 0 0) ([]) X.f1 [.bool X.f1.f0, .int .i64 X.f1.f1, .string X.f1.f2] (fun _ => True) (fun _ => False) rfl rfl (k24_mkM _ _ _ _) (fun _ hk => hk.elim) (fun _ _ => trivial) (Kd.R_drew HUE.out) (below_drew1 HBE.out) (below_drew1 HBE.out).size (by have := HVL.out; simp only [List.length_nil] at *; omega) ?_
                 intro v1 w3 ho3 hb3 hg3 hat3
                 obtain ⟨A3, c9, rfl⟩ := Kd.R_slice ho3
                 obtain ⟨iu, hiu⟩ := Kd.R_own HUE.out
                 have HO3 := Aside0.mk (own_other (show (World.drew w2).ownsRow _ _ _ _ _ _ from HOE.out) hg3 (own_type_ne HOE.out hiu (by decide)))
                 have HX3 := Aside0.mk (blk_grown (blk_drew HXE.out) hg3 (own_ne hiu HXE.out (by decide)))
                 have HU3 := Aside0.mk ho3
                 have HB3 := Aside0.mk hb3
                 clear ho3 hb3 hg3 hat3 hiu cO fO c1 c2 c3
                 have d0 := (og_cell HO3.out).1
                 have f0 := (og_cell HO3.out).2.1
                 have d1 : w3.cell? ⟨wr.heap.size, 1, none⟩ = some (.bool X.f1.f0) := blk_cell HX3.out 1
                 have d2 : w3.cell? ⟨wr.heap.size, 2, none⟩ = some (.int .i64 X.f1.f1) := blk_cell HX3.out 2
                 have d3 : w3.cell? ⟨wr.heap.size, 3, none⟩ = some (.string X.f1.f2) := blk_cell HX3.out 3)))
          all_goals
            go_wp2
            go_roundg (gk - 1)
            (case rel => exact ⟨q + 1 + 1, by go_num, hlt, Nat.sub_le_sub_right hik 1, ⟨by rw [HE.out]; exact Gst_next HO3.out HU3.out (by simp) HB3.out⟩⟩)
            (case measure => clear wq; omega)
    · obtain rfl : i = l.length := by omega
      obtain ⟨cs, ho, hu, hb⟩ := HG.out
      obtain ⟨A', c', rfl⟩ := own_slice ho
      clear hlt hi hik
      go_wp2
      go_ret
      exact ⟨A', c', rfl, hb⟩
end Go.Proofs.YtjgmkimekipgmaaGreatDoor.G
