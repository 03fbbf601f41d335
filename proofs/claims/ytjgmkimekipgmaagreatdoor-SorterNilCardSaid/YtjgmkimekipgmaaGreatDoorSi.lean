/- Whether items are in order: sorter.InOrder, in the print's form. -/
import Derived.Test.YtjgmkimekipgmaaGreatDoorOr
namespace Go.Proofs.YtjgmkimekipgmaaGreatDoor.G
open Go.RowKit Go.Sort Go.Proofs.YtjgmkimekipgmaaGreatDoorW.PrintWords Go.Proofs.YtjgmkimekipgmaaGreatDoorW.PrintLast Go.Proofs.YtjgmkimekipgmaaGreatDoorW.PrintMore
set_option linter.unusedVariables false
set_option linter.unusedSimpArgs false

def keysB (l : List S44) : Bool := l.all (fun x => decide (x.f0.size ≤ 140737488355328))
theorem keysB_all {l : List S44} (h : keysB l = true) : ∀ x ∈ l, x.f0.size ≤ 9223372036854775807 := fun x hx => by
  have := List.all_eq_true.1 h x hx
  simp at this
  omega
def inOrderB (down num : Bool) (l : List S44) : Bool := downB (orderC down num) l (l.length - 1)
theorem enters_order : ∀ args W, (callFunc 65 args).run Tryz.prog W = .ok (.enter 65 args) W := fun args W => by kernel_rfl
set_option maxRecDepth 100000 in
set_option maxHeartbeats 2000000 in
theorem sorter_order.any (j : JC) (w : World) : Calls Tryz.prog 56 #[.agg j.arr] w
    fun e w' => ∃ gb, e = .returned (.func (.func 65) #[] #[.pointer (some ⟨gb, 0, none⟩)]) ∧ w'.heap[gb]? = some (.cells j.arr 26 (0, 0)) ∧ Below w.heap.size w w' := by
  obtain ⟨b0, ⟨A1, n1, c1⟩, ⟨A2, n2, c2⟩, ⟨A3, n3, c3⟩, n4, ⟨A5, n5, c5⟩, b6, n7, t8, b9, n10, down, num, n13⟩ := j
  simp only [JC.arr]
  go_enter Tryz.func56, Tryz.ntmps56
  go_wp2
  go_ret
  exact ⟨_, rfl, blk_new _ _, below_alloc (Below.refl _ _) _⟩

def sorter_InOrder.f (a0_0 : Bool) (l0_1 : List (S113)) (l0_2 : List (S113)) (l0_3 : List (S113)) (a0_4 : Int) (l0_5 : List (S113)) (a0_6 : Bool) (a0_7 : Int) (a0_8 : ByteArray) (a0_9 : Bool) (a0_10 : Int) (a0_11 : Bool) (a0_12 : Bool) (a0_13 : Int) (l1 : List (S44)) : Option Bool := if keysB l1 = true then some (inOrderB a0_11 a0_12 l1) else none
set_option maxRecDepth 100000 in
set_option maxHeartbeats 2000000 in
theorem sorter_InOrder.calls (a0_0 : Bool) (A0_1 : Option Addr) (c0_1 : Nat) (l0_1 : List (S113)) (A0_2 : Option Addr) (c0_2 : Nat) (l0_2 : List (S113)) (A0_3 : Option Addr) (c0_3 : Nat) (l0_3 : List (S113)) (a0_4 : Int) (A0_5 : Option Addr) (c0_5 : Nat) (l0_5 : List (S113)) (a0_6 : Bool) (a0_7 : Int) (a0_8 : ByteArray) (a0_9 : Bool) (a0_10 : Int) (a0_11 : Bool) (a0_12 : Bool) (a0_13 : Int) (A1 : Option Addr) (c1 : Nat) (l1 : List (S44)) (r : Bool) (w : World) (hr0_1 : Kd.C k113 w A0_1 l0_1.length l0_1) (hc0_1 : l0_1.length ≤ c0_1) (hr0_2 : Kd.C k113 w A0_2 l0_2.length l0_2) (hc0_2 : l0_2.length ≤ c0_2) (hr0_3 : Kd.C k113 w A0_3 l0_3.length l0_3) (hc0_3 : l0_3.length ≤ c0_3) (hr0_5 : Kd.C k113 w A0_5 l0_5.length l0_5) (hc0_5 : l0_5.length ≤ c0_5) (hr1 : Kd.C k44 w A1 l1.length l1) (hc1 : l1.length ≤ c1) (h : sorter_InOrder.f a0_0 l0_1 l0_2 l0_3 a0_4 l0_5 a0_6 a0_7 a0_8 a0_9 a0_10 a0_11 a0_12 a0_13 l1 = some r) :
    Calls Tryz.prog 29 #[.agg #[.bool a0_0, .slice A0_1 l0_1.length c0_1, .slice A0_2 l0_2.length c0_2, .slice A0_3 l0_3.length c0_3, .int .i64 a0_4, .slice A0_5 l0_5.length c0_5, .bool a0_6, .int .i64 a0_7, .string a0_8, .bool a0_9, .int .i64 a0_10, .bool a0_11, .bool a0_12, .int .i64 a0_13], .slice A1 l1.length c1] w fun e w' => e = .returned (.bool r) ∧ Below w.heap.size w w' := by
  unfold sorter_InOrder.f at h
  split at h
  rotate_left
  · cases h
  rename_i hk
  injection h with h
  subst h
  have HR := Aside0.mk hr1
  have HCC := Aside0.mk hc1
  have HK := Aside0.mk (keysB_all hk)
  have HO := Aside0.mk (show ∀ W, Calls Tryz.prog 56 #[.agg #[.bool a0_0, .slice A0_1 l0_1.length c0_1, .slice A0_2 l0_2.length c0_2, .slice A0_3 l0_3.length c0_3, .int .i64 a0_4, .slice A0_5 l0_5.length c0_5, .bool a0_6, .int .i64 a0_7, .string a0_8, .bool a0_9, .int .i64 a0_10, .bool a0_11, .bool a0_12, .int .i64 a0_13]] W fun e w' => ∃ gb, e = .returned (.func (.func 65) #[] #[.pointer (some ⟨gb, 0, none⟩)]) ∧ w'.heap[gb]? = some (.cells #[.bool a0_0, .slice A0_1 l0_1.length c0_1, .slice A0_2 l0_2.length c0_2, .slice A0_3 l0_3.length c0_3, .int .i64 a0_4, .slice A0_5 l0_5.length c0_5, .bool a0_6, .int .i64 a0_7, .string a0_8, .bool a0_9, .int .i64 a0_10, .bool a0_11, .bool a0_12, .int .i64 a0_13] 26 (0, 0)) ∧ Below W.heap.size W w' from fun W => sorter_order.any (⟨a0_0, (A0_1, l0_1.length, c0_1), (A0_2, l0_2.length, c0_2), (A0_3, l0_3.length, c0_3), a0_4, (A0_5, l0_5.length, c0_5), a0_6, a0_7, a0_8, a0_9, a0_10, a0_11, a0_12, a0_13⟩ : JC) W)
  have HCMP := Aside0.mk (show ∀ (gb : Nat) (W : World), W.heap[gb]? = some (.cells #[.bool a0_0, .slice A0_1 l0_1.length c0_1, .slice A0_2 l0_2.length c0_2, .slice A0_3 l0_3.length c0_3, .int .i64 a0_4, .slice A0_5 l0_5.length c0_5, .bool a0_6, .int .i64 a0_7, .string a0_8, .bool a0_9, .int .i64 a0_10, .bool a0_11, .bool a0_12, .int .i64 a0_13] 26 (0, 0)) → ∀ W' x y, Below W.heap.size W W' → x.f0.size ≤ 9223372036854775807 → y.f0.size ≤ 9223372036854775807 → Calls Tryz.prog 65 (#[item x, item y] ++ #[.pointer (some ⟨gb, 0, none⟩)]) W' fun e w' => e = .returned (.int .i64 (orderC a0_11 a0_12 x y)) ∧ Below W'.heap.size W' w' from fun gb W hj W' x y hW hx hy => order_any (⟨a0_0, (A0_1, l0_1.length, c0_1), (A0_2, l0_2.length, c0_2), (A0_3, l0_3.length, c0_3), a0_4, (A0_5, l0_5.length, c0_5), a0_6, a0_7, a0_8, a0_9, a0_10, a0_11, a0_12, a0_13⟩ : JC) x y gb W' (blk_below hj hW) hx hy)
  clear hr0_1 hc0_1 hr0_2 hc0_2 hr0_3 hc0_3 hr0_5 hc0_5 hr1 hc1 hk
  go_enter Tryz.func29, Tryz.ntmps29
  go_wp2_with (first
    | (go_at_call 56; refine (HO.out _).mono ?_; rintro e w1 ⟨gb, rfl, hj, hb⟩; have HJ := Aside0.mk hj; have HB := Aside0.mk (below_step (below_alloc (Below.refl _ _) _) hb); clear hj hb)
    | (go_at_call 57; refine (isSorted_any A1 c1 l1 _ _ (orderC a0_11 a0_12) _ (Kd.C_below HR.out HB.out) HCC.out enters_order HK.out (HCMP.out gb _ HJ.out)).mono ?_; rintro e w2 ⟨rfl, hb⟩; have HB2 := Aside0.mk (below_step HB.out hb); clear hb))
  go_ret
  exact ⟨rfl, HB2.out⟩
end Go.Proofs.YtjgmkimekipgmaaGreatDoor.G
