/- The order of items: the closure of sorter.order; and whether items are in order. -/
import Derived.Test.YtjgmkimekipgmaaGreatDoorAh
namespace Go.Proofs.YtjgmkimekipgmaaGreatDoor.G
open Go.RowKit Go.Sort Go.Proofs.YtjgmkimekipgmaaGreatDoorW.PrintWords Go.Proofs.YtjgmkimekipgmaaGreatDoorW.PrintLast Go.Proofs.YtjgmkimekipgmaaGreatDoorW.PrintMore
set_option linter.unusedVariables false
set_option linter.unusedSimpArgs false

def orderC (down num : Bool) (x y : S44) : Int := if aheadB down num x.f0 y.f0 then -1 else if aheadB down num y.f0 x.f0 then 1 else 0
def JC.arr (j : JC) : Array Value := #[.bool j.b0, .slice j.s1.1 j.s1.2.1 j.s1.2.2, .slice j.s2.1 j.s2.2.1 j.s2.2.2, .slice j.s3.1 j.s3.2.1 j.s3.2.2, .int .i64 j.n4, .slice j.s5.1 j.s5.2.1 j.s5.2.2, .bool j.b6, .int .i64 j.n7, .string j.t8, .bool j.b9, .int .i64 j.n10, .bool j.down, .bool j.num, .int .i64 j.n13]
theorem order_lt {down num : Bool} {x y : S44} (h : aheadB down num x.f0 y.f0 = true) : orderC down num x y = -1 := by unfold orderC; rw [if_pos h]
theorem order_gt {down num : Bool} {x y : S44} (h : aheadB down num x.f0 y.f0 = false) (h2 : aheadB down num y.f0 x.f0 = true) : orderC down num x y = 1 := by unfold orderC; rw [if_neg (by simp [h]), if_pos h2]
theorem order_eq {down num : Bool} {x y : S44} (h : aheadB down num x.f0 y.f0 = false) (h2 : aheadB down num y.f0 x.f0 = false) : orderC down num x y = 0 := by unfold orderC; rw [if_neg (by simp [h]), if_neg (by simp [h2])]
set_option maxRecDepth 100000 in
set_option maxHeartbeats 4000000 in
theorem order_any (j : JC) (x y : S44) (gb : Nat) (W : World) (hj : W.heap[gb]? = some (.cells j.arr 26 (0, 0))) (hx : x.f0.size ≤ 9223372036854775807) (hy : y.f0.size ≤ 9223372036854775807) :
    Calls Tryz.prog 65 #[.agg #[.string x.f0, .bool x.f1.f0, .int .i64 x.f1.f1, .string x.f1.f2], .agg #[.string y.f0, .bool y.f1.f0, .int .i64 y.f1.f1, .string y.f1.f2], .pointer (some ⟨gb, 0, none⟩)] W
      fun e w' => e = .returned (.int .i64 (orderC j.down j.num x y)) ∧ Below W.heap.size W w' := by
  have HJ := Aside0.mk hj
  have HX := Aside0.mk hx
  have HY := Aside0.mk hy
  clear hj hx hy
  obtain ⟨R, hR⟩ : ∃ R, R = orderC j.down j.num x y := ⟨_, rfl⟩
  rw [← hR]
  have HR := Aside0.mk hR
  clear hR
  have A1 := Aside0.mk (fun (w : World) => job_Ahead.any j x.f0 y.f0 w HX.out HY.out)
  have A2 := Aside0.mk (fun (w : World) => job_Ahead.any j y.f0 x.f0 w HY.out HX.out)
  have O1 := Aside0.mk (fun h => order_lt (down := j.down) (num := j.num) (x := x) (y := y) h)
  have O2 := Aside0.mk (fun h h2 => order_gt (down := j.down) (num := j.num) (x := x) (y := y) h h2)
  have O3 := Aside0.mk (fun h h2 => order_eq (down := j.down) (num := j.num) (x := x) (y := y) h h2)
  obtain ⟨b1, hb1⟩ : ∃ b, b = aheadB j.down j.num x.f0 y.f0 := ⟨_, rfl⟩
  obtain ⟨b2, hb2⟩ : ∃ b, b = aheadB j.down j.num y.f0 x.f0 := ⟨_, rfl⟩
  rw [← hb1] at A1 O1 O2 O3
  rw [← hb2] at A2 O2 O3
  clear hb1 hb2
  cases b1
  · cases b2
    all_goals
      go_enter Tryz.func65, Tryz.ntmps65
      go_wp2_with (first
        | ((with_reducible refine gate_dst (N := 7) rfl ?_); refine wpList_load_row (by rfl) 26 _ (by rfl) gb (by rfl) 26 j.arr (0, 0) _ (blk_alloc (blk_alloc HJ.out _) _) Tryz.underlying26 (by rfl) (by kernel_rfl) ?_)
        | (go_at_call 66; refine (A1.out _).mono ?_; rintro e w1 ⟨rfl, hb⟩; have HB1 := Aside0.mk (below_step (below_alloc (below_alloc (Below.refl _ _) _) _) hb)
           have HJ1 := Aside0.mk (blk_below (blk_alloc (blk_alloc HJ.out _) _) hb)
           have cx : w1.cell? ⟨W.heap.size, 0, none⟩ = some (.string x.f0) := blk_cell (blk_below (blk_alloc (blk_new W (.cells #[.string x.f0, .bool x.f1.f0, .int .i64 x.f1.f1, .string x.f1.f2] 44)) _) hb) 0
           have cy : w1.cell? ⟨W.heap.size + 1, 0, none⟩ = some (.string y.f0) := blk_cell (blk_below (blk_new2 W _ (.cells #[.string y.f0, .bool y.f1.f0, .int .i64 y.f1.f1, .string y.f1.f2] 44)) hb) 0
           clear hb A1)
        | ((with_reducible refine gate_dst (N := 14) rfl ?_); refine wpList_load_row (by rfl) 26 _ (by rfl) gb (by rfl) 26 j.arr (0, 0) _ HJ1.out Tryz.underlying26 (by rfl) (by kernel_rfl) ?_)
        | (go_at_call 66; refine (A2.out _).mono ?_; rintro e w2 ⟨rfl, hb⟩; have HB2 := Aside0.mk (below_step HB1.out hb); clear hb))
      go_ret
      first
        | exact ⟨by rw [HR.out, O2.out (by simp) (by simp)]; rfl, HB2.out⟩
        | exact ⟨by rw [HR.out, O3.out (by simp) (by simp)]; rfl, HB2.out⟩
  · go_enter Tryz.func65, Tryz.ntmps65
    go_wp2_with (first
      | ((with_reducible refine gate_dst (N := 7) rfl ?_); refine wpList_load_row (by rfl) 26 _ (by rfl) gb (by rfl) 26 j.arr (0, 0) _ (blk_alloc (blk_alloc HJ.out _) _) Tryz.underlying26 (by rfl) (by kernel_rfl) ?_)
      | (go_at_call 66; refine (A1.out _).mono ?_; rintro e w1 ⟨rfl, hb⟩; have HB1 := Aside0.mk (below_step (below_alloc (below_alloc (Below.refl _ _) _) _) hb); clear hb))
    go_ret
    exact ⟨by rw [HR.out, O1.out (by simp)]; rfl, HB1.out⟩
theorem q_step {P : Program} {ops : Array Oper} {C : World → Prop} {Q : Act → Prop} {o : Oper} {rest : List Oper} {a : Act} (hw : Region.wanted o (yielded ops a.tmps) = true) (v : Value) (h : ∀ W, C W → o.quietAt P a C W v)
    (k : wpQuiet P ops C Q rest (a.put o.dst v)) : wpQuiet P ops C Q (o :: rest) a := by
  unfold wpQuiet
  rw [if_pos hw]
  exact ⟨v, h, k⟩
def item (x : S44) : Value := .agg #[.string x.f0, .bool x.f1.f0, .int .i64 x.f1.f1, .string x.f1.f2]
/-- from place i down to 1, none is less than the one ahead of it -/
def downB (cf : S44 → S44 → Int) (l : List S44) : Nat → Bool
  | 0 => true
  | i + 1 => !decide (cf (rd_T44 l ((i : Int) + 1)) (rd_T44 l (i : Int)) < 0) && downB cf l i

set_option maxRecDepth 100000 in
set_option maxHeartbeats 2000000 in
theorem isSorted_any (A : Option Addr) (c : Nat) (l : List S44) (g : Nat) (cb : Array Value) (cf : S44 → S44 → Int) (w : World) (hr : Kd.C k44 w A l.length l) (hc : l.length ≤ c)

    (eg : ∀ args W, (callFunc g args).run Tryz.prog W = .ok (.enter g args) W) (hl : ∀ x ∈ l, x.f0.size ≤ 9223372036854775807) (hcmp : ∀ W x y, Below w.heap.size w W → x.f0.size ≤ 9223372036854775807 → y.f0.size ≤ 9223372036854775807 → Calls Tryz.prog g (#[item x, item y] ++ cb) W fun e w' => e = .returned (.int .i64 (cf x y)) ∧ Below W.heap.size W w') :
    Calls Tryz.prog 57 #[.slice A l.length c, .func (.func g) #[] cb] w fun e w' => e = .returned (.bool (downB cf l (l.length - 1))) ∧ Below w.heap.size w w' := by
  have HR := Aside0.mk hr
  have HKS := Aside0.mk (show ∀ i : Int, 0 ≤ i → i < l.length → (rd_T44 l i).f0.size ≤ 9223372036854775807 from fun i h0 h1 => by
    unfold rd_T44
    rw [List.getD_eq_getElem?_getD, List.getElem?_eq_getElem (show i.toNat < l.length by omega)]
    exact hl _ (List.getElem_mem _))
  clear hl
  have HC := Aside0.mk hcmp
  clear hr hcmp hc
  have hlen : l.length ≤ 9223372036854775807 := HR.out.2.1
  have HB0 := Aside0.mk (Below.refl w.heap.size w)
  have hw0 : wrap64 ((l.length : Int) - 1) = (l.length : Int) - 1 := by unfold wrap64; omega
  go_enter Tryz.func57, Tryz.ntmps57
  go_wp2
  clear hw0
  go_loopg [5] l.length (fun kq v5 w' => ∃ i : Int, v5 = .int .i64 i ∧ -1 ≤ i ∧ i < l.length ∧ i.toNat ≤ kq ∧ Aside0 (downB cf l i.toNat = downB cf l (l.length - 1)) ∧ Aside0 (Below w.heap.size w w'))
  case atStart => exact ⟨(l.length : Int) - 1, rfl, by omega, by omega, by omega, ⟨by congr 1; omega⟩, HB0⟩
  case round =>
    clear HB0
    obtain ⟨i, rfl, hi1, hi2, hik, HD, HB⟩ := hrel
    by_cases hlt : 0 < i
    · obtain ⟨j, rfl⟩ : ∃ j : Nat, i = (j : Int) + 1 := ⟨(i - 1).toNat, by omega⟩
      go_wp2
      have p1 : 0 ≤ (j : Int) + 1 := by omega
      have p0 : 0 ≤ (j : Int) := by omega
      have q1 : (j : Int) + 1 < (l.length : Int) := hi2
      have q0 : (j : Int) < (l.length : Int) := by omega
      obtain ⟨ad, e1, x0, x1, x2, x3⟩ := at_T44 HR.out ((j : Int) + 1) p1 q1
      obtain ⟨ad', e0, y0, y1, y2, y3⟩ := at_T44 HR.out (j : Int) p0 q0
      subst e1
      injection e0 with e0
      subst e0
      have hsx := Aside0.mk (HKS.out _ p1 q1)
      have hsy := Aside0.mk (HKS.out _ p0 q0)
      generalize hX : rd_T44 l ((j : Int) + 1) = X at x0 x1 x2 x3 hsx
      generalize hY : rd_T44 l (j : Int) = Y at y0 y1 y2 y3 hsy
      have L : ∀ {a : Addr} {v : Value}, w.cell? a = some v → ∀ W, Below w.heap.size w W → W.cell? a = some v := fun h W hW => (hW.cell (World.block_lt_of_cell? w _ h)).trans h
      have ej : ((j : Int) + 1).toNat = j + 1 := by omega
      have wj : IntKind.i64.wrap (j : Int) = (j : Int) := by rw [i64_w]; unfold wrap64; omega
      simp only [ej, Int.toNat_natCast] at x0 x1 x2 x3 y0 y1 y2 y3
      have X0 := L x0
      have X1 := L x1
      have X2 := L x2
      have X3 := L x3
      have Y0 := L y0
      have Y1 := L y1
      have Y2 := L y2
      have Y3 := L y3
      clear x0 x1 x2 x3 y0 y1 y2 y3 L
      refine wp_region_quiet (C := Below w.heap.size w) (by kernel_rfl) (by kernel_rfl) (below_drew1 HB.out) ?_
      iterate 10 (
        refine q_step (by rfl) ?_ (fun W hW => ?_) ?_
        rotate_left
        · unfold Oper.quietAt; go_simp; rfl
        simp only [Act.put, List.setIfInBounds_toArray, List.set_cons_zero, List.set_cons_succ])
      refine q_step (by rfl) (.int .i64 (cf X Y)) (fun W hW => ?_) ?_
      · unfold Oper.quietAt; go_simp
        (try simp only [true_and]); exact (HC.out W X Y hW hsx.out hsy.out).mono fun e w' h => ⟨h.1, hW.trans (h.2.mono hW.size)⟩
      simp only [Act.put, List.setIfInBounds_toArray, List.set_cons_zero, List.set_cons_succ]
      refine q_step (by rfl) ?_ (fun W hW => ?_) ?_
      rotate_left
      · unfold Oper.quietAt; go_simp; rfl
      simp only [Act.put, List.setIfInBounds_toArray, List.set_cons_zero, List.set_cons_succ]
      refine wpQuiet_nil ?_
      intro W hW
      by_cases hcf : cf X Y < 0
      · go_wp2
        go_ret
        refine ⟨?_, hW⟩
        have e : downB cf l (j + 1) = downB cf l (l.length - 1) := by have := HD.out; rwa [ej] at this
        rw [← e]
        simp [downB, hX, hY, hcf]
      · go_wp2
        go_roundg (gk - 1)
        case rel => exact ⟨(j : Int), rfl, by omega, by omega, by omega, ⟨by have := HD.out; rw [ej] at this; rw [← this]; simp [downB, hX, hY, hcf]⟩, ⟨hW⟩⟩
        case measure => omega
    · go_wp2
      go_ret
      have e : i.toNat = 0 := by omega
      refine ⟨?_, HB.out⟩
      have := HD.out
      rw [e] at this
      rw [← this]; rfl
end Go.Proofs.YtjgmkimekipgmaaGreatDoor.G
