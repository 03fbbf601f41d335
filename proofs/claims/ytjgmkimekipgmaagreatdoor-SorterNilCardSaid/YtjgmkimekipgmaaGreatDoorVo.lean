import Derived.Test.YtjgmkimekipgmaaGreatDoorG0
import Derived.WalkLawsBesides
import Derived.WalkSpells
import Derived.Sort.Grow
import Derived.MapKept
namespace Go.Proofs.YtjgmkimekipgmaaGreatDoor.G
open Go.RowKit Go.Sort Go.Proofs.YtjgmkimekipgmaaGreatDoorW.PrintWords Go.Proofs.YtjgmkimekipgmaaGreatDoorW.PrintLast Go.Proofs.YtjgmkimekipgmaaGreatDoorW.PrintMore

def opsEnts (B : Nat) : List MapEntry := [
  ⟨.int .i64 4, .agg #[.slice (some ⟨B, 0, none⟩) 2 2, .int .i64 0, .func (.func 101) #[] #[]], 0⟩,
  ⟨.int .i64 5, .agg #[.slice (some ⟨B, 0, none⟩) 2 2, .int .i64 0, .func (.func 102) #[] #[]], 1⟩,
  ⟨.int .i64 6, .agg #[.slice (some ⟨B, 0, none⟩) 2 2, .int .i64 0, .func (.func 103) #[] #[]], 2⟩,
  ⟨.int .i64 7, .agg #[.slice (some ⟨B, 0, none⟩) 2 2, .int .i64 0, .func (.func 104) #[] #[]], 3⟩,
  ⟨.int .i64 8, .agg #[.slice (some ⟨B, 0, none⟩) 2 2, .int .i64 0, .func (.func 105) #[] #[]], 4⟩,
  ⟨.int .i64 9, .agg #[.slice (some ⟨B + 3, 0, none⟩) 2 2, .int .i64 1, .func (.func 106) #[] #[]], 5⟩,
  ⟨.int .i64 10, .agg #[.slice (some ⟨B + 1, 0, none⟩) 1 1, .int .i64 0, .func (.func 107) #[] #[]], 6⟩,
  ⟨.int .i64 11, .agg #[.slice (some ⟨B + 4, 0, none⟩) 3 3, .int .i64 1, .func (.func 108) #[] #[]], 7⟩,
  ⟨.int .i64 12, .agg #[.slice (some ⟨B + 1, 0, none⟩) 1 1, .int .i64 1, .func (.func 109) #[] #[]], 8⟩,
  ⟨.int .i64 13, .agg #[.slice (some ⟨B + 1, 0, none⟩) 1 1, .int .i64 1, .func (.func 110) #[] #[]], 9⟩,
  ⟨.int .i64 14, .agg #[.slice (some ⟨B + 5, 0, none⟩) 2 2, .int .i64 0, .func (.func 111) #[] #[]], 10⟩,
  ⟨.int .i64 15, .agg #[.slice (some ⟨B + 6, 0, none⟩) 2 2, .int .i64 0, .func (.func 112) #[] #[]], 11⟩,
  ⟨.int .i64 16, .agg #[.slice (some ⟨B + 7, 0, none⟩) 1 1, .int .i64 0, .func (.func 113) #[] #[]], 12⟩,
  ⟨.int .i64 17, .agg #[.slice (some ⟨B + 8, 0, none⟩) 3 3, .int .i64 2, .func (.func 114) #[] #[]], 13⟩,
  ⟨.int .i64 18, .agg #[.slice (some ⟨B + 1, 0, none⟩) 1 1, .int .i64 0, .func (.func 115) #[] #[]], 14⟩,
  ⟨.int .i64 19, .agg #[.slice (some ⟨B + 9, 0, none⟩) 1 1, .int .i64 1, .func (.func 116) #[] #[]], 15⟩,
  ⟨.int .i64 20, .agg #[.slice (some ⟨B + 1, 0, none⟩) 1 1, .int .i64 0, .func (.func 117) #[] #[]], 16⟩,
  ⟨.int .i64 21, .agg #[.slice (some ⟨B + 10, 0, none⟩) 2 2, .int .i64 0, .func (.func 118) #[] #[]], 17⟩]
def opsObjs (B k : Nat) : List Obj := [
  .cells #[.int .i64 0, .int .i64 0] 148 (0, 0),
  .cells #[.int .i64 1] 148 (0, 0),
  .map ((opsEnts B).take k).toArray k,
  .cells #[.int .i64 1, .int .i64 1] 148 (0, 0),
  .cells #[.int .i64 1, .int .i64 0, .int .i64 0] 148 (0, 0),
  .cells #[.int .i64 2, .int .i64 2] 148 (0, 0),
  .cells #[.int .i64 2, .int .i64 2] 148 (0, 0),
  .cells #[.int .i64 0] 148 (0, 0),
  .cells #[.int .i64 0, .int .i64 2, .int .i64 2] 148 (0, 0),
  .cells #[.int .i64 0] 148 (0, 0),
  .cells #[.int .i64 1, .int .i64 1] 148 (0, 0)]

section
variable {P : Program} {ops : Array Oper} {rest : List Oper} {o : Oper} {a : Act} {Q : Exit → Act → World → Prop}
theorem l_value {W W' : World} (v : Value) (hg : o.guard = none) (h : (execOp a.eval o).run P W = .ok (.value v) W') (k : wpList P ops Q rest (a.put o.dst v) W') : wpList P ops Q (o :: rest) a W := by
  refine wpList_plain hg fun K hK => ?_
  unfold Oper.wp
  rw [h]
  exact hK _ _ k
theorem l_skip {W W' : World} (hg : o.guard = none) (h : (execOp a.eval o).run P W = .ok .skip W') (k : wpList P ops Q rest (a.put o.dst undef) W') : wpList P ops Q (o :: rest) a W := by
  refine wpList_plain hg fun K hK => ?_
  unfold Oper.wp
  rw [h]
  exact hK _ _ k
end
theorem grow_alloc (w : World) (os : Array Obj) (o : Obj) : (grow w os).alloc o = grow w (os.push o) := by
  unfold grow World.alloc
  simp only [Array.push_append]
theorem run_mapUpdate_int {P : Program} (W : World) {t k e : TypeId} (ht : P.underlying t = some (.map k e)) (hk : P.underlying k = some (.int .i64)) {m : Nat} {es : Array MapEntry} {c : Nat} (hb : W.heap[m]? = some (.map es c)) (n : Int)
    (hf : Instr.findNow (.int .i64) (.int .i64 n) es.toList 0 = some none) (val : Value) :
    (Instr.mapUpdate t (.map (some m)) (.int .i64 n) val).run P W = .ok () { W with heap := W.heap.setIfInBounds m (.map (es.push { key := .int .i64 n, val := val, born := c }) (c + 1)) } := by
  unfold Instr.mapUpdate Instr.checkKey
  simp [run_underlying ht, run_underlying hk, MapKept.run_getObj_map hb, MapKept.run_findKey hk hf, MapKept.run_setObj_map _ hb, Result.andThen]
/-- the world while the table is laid: n blocks behind w, the map holds k entries -/
def ostate (w : World) (n k : Nat) : World := grow w ((opsObjs w.heap.size k).take n).toArray
theorem ostate_size (w : World) (n k : Nat) (h : n ≤ 11) : (ostate w n k).heap.size = w.heap.size + n := by
  unfold ostate
  simp [opsObjs]
  omega
theorem ostate_alloc (w : World) (n k : Nat) (o : Obj) (h : ((opsObjs w.heap.size k).take (n + 1)).toArray = ((opsObjs w.heap.size k).take n).toArray.push o) : (ostate w n k).alloc o = ostate w (n + 1) k := by
  unfold ostate
  rw [grow_alloc, h]
theorem ostate_ins (w : World) (n k : Nat) (o : Int) (val : Value) (hn : 3 ≤ n) (hf : Instr.findNow (.int .i64) (.int .i64 o) ((opsEnts w.heap.size).take k).toArray.toList 0 = some none)
    (he : ((opsEnts w.heap.size).take (k + 1)).toArray = ((opsEnts w.heap.size).take k).toArray.push { key := .int .i64 o, val := val, born := k })
    (hx : ((opsObjs w.heap.size k).take n).toArray.setIfInBounds 2 (.map ((opsEnts w.heap.size).take (k + 1)).toArray (k + 1)) = ((opsObjs w.heap.size (k + 1)).take n).toArray) :
    (Instr.mapUpdate 152 (.map (some (w.heap.size + 2))) (.int .i64 o) val).run Tryz.prog (ostate w n k) = .ok () (ostate w n (k + 1)) := by
  have hb : (ostate w n k).heap[w.heap.size + 2]? = some (.map ((opsEnts w.heap.size).take k).toArray k) := by
    unfold ostate grow
    simp only [Array.getElem?_append_right (Nat.le_add_right _ _), Nat.add_sub_cancel_left]
    rw [List.getElem?_toArray, List.getElem?_take, if_pos (by omega)]
    rfl
  rw [run_mapUpdate_int _ Tryz.underlying152 Tryz.underlying3 hb o hf val]
  congr 1
  unfold ostate grow
  simp only []
  congr 1
  rw [← he, ← hx]
  simp only [Array.setIfInBounds_append_right (Nat.le_add_right _ _), Nat.add_sub_cancel_left]
theorem ops_i4 (w : World) : (Instr.mapUpdate 152 (.map (some (w.heap.size + 2))) (.int .i64 4) (.agg #[.slice (some ⟨w.heap.size, 0, none⟩) 2 2, .int .i64 0, .func (.func 101) #[] #[]])).run Tryz.prog (ostate w 3 0) = .ok () (ostate w 3 1) := ostate_ins w 3 0 _ _ (by decide) (by kernel_rfl) (by kernel_rfl) (by kernel_rfl)
theorem ops_i5 (w : World) : (Instr.mapUpdate 152 (.map (some (w.heap.size + 2))) (.int .i64 5) (.agg #[.slice (some ⟨w.heap.size, 0, none⟩) 2 2, .int .i64 0, .func (.func 102) #[] #[]])).run Tryz.prog (ostate w 3 1) = .ok () (ostate w 3 2) := ostate_ins w 3 1 _ _ (by decide) (by kernel_rfl) (by kernel_rfl) (by kernel_rfl)
theorem ops_i6 (w : World) : (Instr.mapUpdate 152 (.map (some (w.heap.size + 2))) (.int .i64 6) (.agg #[.slice (some ⟨w.heap.size, 0, none⟩) 2 2, .int .i64 0, .func (.func 103) #[] #[]])).run Tryz.prog (ostate w 3 2) = .ok () (ostate w 3 3) := ostate_ins w 3 2 _ _ (by decide) (by kernel_rfl) (by kernel_rfl) (by kernel_rfl)
theorem ops_i7 (w : World) : (Instr.mapUpdate 152 (.map (some (w.heap.size + 2))) (.int .i64 7) (.agg #[.slice (some ⟨w.heap.size, 0, none⟩) 2 2, .int .i64 0, .func (.func 104) #[] #[]])).run Tryz.prog (ostate w 3 3) = .ok () (ostate w 3 4) := ostate_ins w 3 3 _ _ (by decide) (by kernel_rfl) (by kernel_rfl) (by kernel_rfl)
theorem ops_i8 (w : World) : (Instr.mapUpdate 152 (.map (some (w.heap.size + 2))) (.int .i64 8) (.agg #[.slice (some ⟨w.heap.size, 0, none⟩) 2 2, .int .i64 0, .func (.func 105) #[] #[]])).run Tryz.prog (ostate w 3 4) = .ok () (ostate w 3 5) := ostate_ins w 3 4 _ _ (by decide) (by kernel_rfl) (by kernel_rfl) (by kernel_rfl)
theorem ops_a9 (w : World) : (ostate w 3 5).alloc (.cells #[.int .i64 1, .int .i64 1] 148) = ostate w 4 5 := ostate_alloc w 3 5 _ (by kernel_rfl)
theorem ops_s9 (w : World) : (ostate w 3 5).heap.size = w.heap.size + 3 := ostate_size w 3 5 (by decide)
theorem ops_i9 (w : World) : (Instr.mapUpdate 152 (.map (some (w.heap.size + 2))) (.int .i64 9) (.agg #[.slice (some ⟨w.heap.size + 3, 0, none⟩) 2 2, .int .i64 1, .func (.func 106) #[] #[]])).run Tryz.prog (ostate w 4 5) = .ok () (ostate w 4 6) := ostate_ins w 4 5 _ _ (by decide) (by kernel_rfl) (by kernel_rfl) (by kernel_rfl)
theorem ops_i10 (w : World) : (Instr.mapUpdate 152 (.map (some (w.heap.size + 2))) (.int .i64 10) (.agg #[.slice (some ⟨w.heap.size + 1, 0, none⟩) 1 1, .int .i64 0, .func (.func 107) #[] #[]])).run Tryz.prog (ostate w 4 6) = .ok () (ostate w 4 7) := ostate_ins w 4 6 _ _ (by decide) (by kernel_rfl) (by kernel_rfl) (by kernel_rfl)
theorem ops_a11 (w : World) : (ostate w 4 7).alloc (.cells #[.int .i64 1, .int .i64 0, .int .i64 0] 148) = ostate w 5 7 := ostate_alloc w 4 7 _ (by kernel_rfl)
theorem ops_s11 (w : World) : (ostate w 4 7).heap.size = w.heap.size + 4 := ostate_size w 4 7 (by decide)
theorem ops_i11 (w : World) : (Instr.mapUpdate 152 (.map (some (w.heap.size + 2))) (.int .i64 11) (.agg #[.slice (some ⟨w.heap.size + 4, 0, none⟩) 3 3, .int .i64 1, .func (.func 108) #[] #[]])).run Tryz.prog (ostate w 5 7) = .ok () (ostate w 5 8) := ostate_ins w 5 7 _ _ (by decide) (by kernel_rfl) (by kernel_rfl) (by kernel_rfl)
theorem ops_i12 (w : World) : (Instr.mapUpdate 152 (.map (some (w.heap.size + 2))) (.int .i64 12) (.agg #[.slice (some ⟨w.heap.size + 1, 0, none⟩) 1 1, .int .i64 1, .func (.func 109) #[] #[]])).run Tryz.prog (ostate w 5 8) = .ok () (ostate w 5 9) := ostate_ins w 5 8 _ _ (by decide) (by kernel_rfl) (by kernel_rfl) (by kernel_rfl)
theorem ops_i13 (w : World) : (Instr.mapUpdate 152 (.map (some (w.heap.size + 2))) (.int .i64 13) (.agg #[.slice (some ⟨w.heap.size + 1, 0, none⟩) 1 1, .int .i64 1, .func (.func 110) #[] #[]])).run Tryz.prog (ostate w 5 9) = .ok () (ostate w 5 10) := ostate_ins w 5 9 _ _ (by decide) (by kernel_rfl) (by kernel_rfl) (by kernel_rfl)
theorem ops_a14 (w : World) : (ostate w 5 10).alloc (.cells #[.int .i64 2, .int .i64 2] 148) = ostate w 6 10 := ostate_alloc w 5 10 _ (by kernel_rfl)
theorem ops_s14 (w : World) : (ostate w 5 10).heap.size = w.heap.size + 5 := ostate_size w 5 10 (by decide)
theorem ops_i14 (w : World) : (Instr.mapUpdate 152 (.map (some (w.heap.size + 2))) (.int .i64 14) (.agg #[.slice (some ⟨w.heap.size + 5, 0, none⟩) 2 2, .int .i64 0, .func (.func 111) #[] #[]])).run Tryz.prog (ostate w 6 10) = .ok () (ostate w 6 11) := ostate_ins w 6 10 _ _ (by decide) (by kernel_rfl) (by kernel_rfl) (by kernel_rfl)
theorem ops_a15 (w : World) : (ostate w 6 11).alloc (.cells #[.int .i64 2, .int .i64 2] 148) = ostate w 7 11 := ostate_alloc w 6 11 _ (by kernel_rfl)
theorem ops_s15 (w : World) : (ostate w 6 11).heap.size = w.heap.size + 6 := ostate_size w 6 11 (by decide)
theorem ops_i15 (w : World) : (Instr.mapUpdate 152 (.map (some (w.heap.size + 2))) (.int .i64 15) (.agg #[.slice (some ⟨w.heap.size + 6, 0, none⟩) 2 2, .int .i64 0, .func (.func 112) #[] #[]])).run Tryz.prog (ostate w 7 11) = .ok () (ostate w 7 12) := ostate_ins w 7 11 _ _ (by decide) (by kernel_rfl) (by kernel_rfl) (by kernel_rfl)
theorem ops_a16 (w : World) : (ostate w 7 12).alloc (.cells #[.int .i64 0] 148) = ostate w 8 12 := ostate_alloc w 7 12 _ (by kernel_rfl)
theorem ops_s16 (w : World) : (ostate w 7 12).heap.size = w.heap.size + 7 := ostate_size w 7 12 (by decide)
theorem ops_i16 (w : World) : (Instr.mapUpdate 152 (.map (some (w.heap.size + 2))) (.int .i64 16) (.agg #[.slice (some ⟨w.heap.size + 7, 0, none⟩) 1 1, .int .i64 0, .func (.func 113) #[] #[]])).run Tryz.prog (ostate w 8 12) = .ok () (ostate w 8 13) := ostate_ins w 8 12 _ _ (by decide) (by kernel_rfl) (by kernel_rfl) (by kernel_rfl)
theorem ops_a17 (w : World) : (ostate w 8 13).alloc (.cells #[.int .i64 0, .int .i64 2, .int .i64 2] 148) = ostate w 9 13 := ostate_alloc w 8 13 _ (by kernel_rfl)
theorem ops_s17 (w : World) : (ostate w 8 13).heap.size = w.heap.size + 8 := ostate_size w 8 13 (by decide)
theorem ops_i17 (w : World) : (Instr.mapUpdate 152 (.map (some (w.heap.size + 2))) (.int .i64 17) (.agg #[.slice (some ⟨w.heap.size + 8, 0, none⟩) 3 3, .int .i64 2, .func (.func 114) #[] #[]])).run Tryz.prog (ostate w 9 13) = .ok () (ostate w 9 14) := ostate_ins w 9 13 _ _ (by decide) (by kernel_rfl) (by kernel_rfl) (by kernel_rfl)
theorem ops_i18 (w : World) : (Instr.mapUpdate 152 (.map (some (w.heap.size + 2))) (.int .i64 18) (.agg #[.slice (some ⟨w.heap.size + 1, 0, none⟩) 1 1, .int .i64 0, .func (.func 115) #[] #[]])).run Tryz.prog (ostate w 9 14) = .ok () (ostate w 9 15) := ostate_ins w 9 14 _ _ (by decide) (by kernel_rfl) (by kernel_rfl) (by kernel_rfl)
theorem ops_a19 (w : World) : (ostate w 9 15).alloc (.cells #[.int .i64 0] 148) = ostate w 10 15 := ostate_alloc w 9 15 _ (by kernel_rfl)
theorem ops_s19 (w : World) : (ostate w 9 15).heap.size = w.heap.size + 9 := ostate_size w 9 15 (by decide)
theorem ops_i19 (w : World) : (Instr.mapUpdate 152 (.map (some (w.heap.size + 2))) (.int .i64 19) (.agg #[.slice (some ⟨w.heap.size + 9, 0, none⟩) 1 1, .int .i64 1, .func (.func 116) #[] #[]])).run Tryz.prog (ostate w 10 15) = .ok () (ostate w 10 16) := ostate_ins w 10 15 _ _ (by decide) (by kernel_rfl) (by kernel_rfl) (by kernel_rfl)
theorem ops_i20 (w : World) : (Instr.mapUpdate 152 (.map (some (w.heap.size + 2))) (.int .i64 20) (.agg #[.slice (some ⟨w.heap.size + 1, 0, none⟩) 1 1, .int .i64 0, .func (.func 117) #[] #[]])).run Tryz.prog (ostate w 10 16) = .ok () (ostate w 10 17) := ostate_ins w 10 16 _ _ (by decide) (by kernel_rfl) (by kernel_rfl) (by kernel_rfl)
theorem ops_a21 (w : World) : (ostate w 10 17).alloc (.cells #[.int .i64 1, .int .i64 1] 148) = ostate w 11 17 := ostate_alloc w 10 17 _ (by kernel_rfl)
theorem ops_s21 (w : World) : (ostate w 10 17).heap.size = w.heap.size + 10 := ostate_size w 10 17 (by decide)
theorem ops_i21 (w : World) : (Instr.mapUpdate 152 (.map (some (w.heap.size + 2))) (.int .i64 21) (.agg #[.slice (some ⟨w.heap.size + 10, 0, none⟩) 2 2, .int .i64 0, .func (.func 118) #[] #[]])).run Tryz.prog (ostate w 11 17) = .ok () (ostate w 11 18) := ostate_ins w 11 17 _ _ (by decide) (by kernel_rfl) (by kernel_rfl) (by kernel_rfl)
theorem ops_h0 (w : World) : ((w.alloc (.cells #[.int .i64 0, .int .i64 0] 148)).alloc (.cells #[.int .i64 1] 148)).alloc (.map #[] 0) = ostate w 3 0 := by
  have e := grow_empty w
  rw [← e, grow_alloc, grow_alloc, grow_alloc, e]
  unfold ostate
  congr 1
set_option maxRecDepth 100000 in
set_option maxHeartbeats 2000000 in
theorem ops_any (w : World) : Calls Tryz.prog 89 #[] w fun e w' => e = .returned (.map (some (w.heap.size + 2))) ∧ w' = ostate w 11 18 := by
  have hmm := @run_makeMap Tryz.prog
  have h0 := ops_h0 w
  have i4 := ops_i4 w
  have i5 := ops_i5 w
  have i6 := ops_i6 w
  have i7 := ops_i7 w
  have i8 := ops_i8 w
  have a9 := ops_a9 w
  have s9 := ops_s9 w
  have i9 := ops_i9 w
  have i10 := ops_i10 w
  have a11 := ops_a11 w
  have s11 := ops_s11 w
  have i11 := ops_i11 w
  have i12 := ops_i12 w
  have i13 := ops_i13 w
  have a14 := ops_a14 w
  have s14 := ops_s14 w
  have i14 := ops_i14 w
  have a15 := ops_a15 w
  have s15 := ops_s15 w
  have i15 := ops_i15 w
  have a16 := ops_a16 w
  have s16 := ops_s16 w
  have i16 := ops_i16 w
  have a17 := ops_a17 w
  have s17 := ops_s17 w
  have i17 := ops_i17 w
  have i18 := ops_i18 w
  have a19 := ops_a19 w
  have s19 := ops_s19 w
  have i19 := ops_i19 w
  have i20 := ops_i20 w
  have a21 := ops_a21 w
  have s21 := ops_s21 w
  have i21 := ops_i21 w
  go_enter Tryz.func89, Tryz.ntmps89
  go_wp2
  go_ret
  exact ⟨rfl, rfl⟩
end Go.Proofs.YtjgmkimekipgmaaGreatDoor.G
