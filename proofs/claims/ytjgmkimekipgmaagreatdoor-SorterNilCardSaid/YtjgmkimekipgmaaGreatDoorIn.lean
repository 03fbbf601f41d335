/- Insertion sort, in place. -/
import Derived.Test.YtjgmkimekipgmaaGreatDoorRo
import Derived.BigRegion
namespace Go.Proofs.YtjgmkimekipgmaaGreatDoor.G
open Go.RowKit Go.Sort Go.Proofs.YtjgmkimekipgmaaGreatDoorW.PrintWords Go.Proofs.YtjgmkimekipgmaaGreatDoorW.PrintLast Go.Proofs.YtjgmkimekipgmaaGreatDoorW.PrintMore
set_option linter.unusedVariables false
set_option linter.unusedSimpArgs false

def allK (l : List S44) : Prop := ∀ t, (itm l t).f0.size ≤ 9223372036854775807
/-- item i stands at place j, those from j on one place further -/
def moveIdx (j i t : Nat) : Nat := if t < j then t else if t = j then i else if t ≤ i then t - 1 else t
def moveL (l : List S44) (j i : Nat) : List S44 := (List.range l.length).map (fun t => itm l (moveIdx j i t))
theorem moveL_length (l : List S44) (j i : Nat) : (moveL l j i).length = l.length := by simp [moveL]
theorem itm_moveL (l : List S44) (j i t : Nat) (h : t < l.length) : itm (moveL l j i) t = itm l (moveIdx j i t) := by
  rw [itm_lt _ _ (by rw [moveL_length]; exact h)]
  simp [moveL]
theorem itm_out (l : List S44) (t : Nat) (h : l.length ≤ t) : itm l t = z44 := by unfold itm; rw [List.getD_eq_getElem?_getD, List.getElem?_eq_none h]; rfl
theorem moveL_self (l : List S44) (i : Nat) : moveL l i i = l := by
  apply itm_ext (moveL_length _ _ _)
  intro t ht
  rw [moveL_length] at ht
  rw [itm_moveL _ _ _ _ ht]
  congr 1
  unfold moveIdx
  repeat' split
  all_goals omega
theorem moveL_swp (l : List S44) (j i : Nat) (h0 : 0 < j) (h1 : j ≤ i) (h2 : i < l.length) : swp (moveL l j i) j (j - 1) = moveL l (j - 1) i := by
  apply itm_ext (by rw [swp_length, moveL_length, moveL_length])
  intro t ht
  rw [swp_length, moveL_length] at ht
  rw [itm_swp _ _ _ _ (by rw [moveL_length]; omega) (by rw [moveL_length]; omega), itm_moveL l j i t ht, itm_moveL l (j - 1) i t ht, itm_moveL l j i j (by omega), itm_moveL l j i (j - 1) (by omega)]
  unfold moveIdx
  repeat' split
  all_goals first
    | rfl
    | (congr 1; omega)
    | omega
theorem allK_moveL {l : List S44} (h : allK l) (j i : Nat) : allK (moveL l j i) := by
  intro t
  by_cases ht : t < l.length
  · rw [itm_moveL _ _ _ _ ht]; exact h _
  · rw [itm_out _ _ (by rw [moveL_length]; omega)]; decide
/-- where item x comes to stand among the d items from a on, looked at from behind -/
def posD (cf : S44 → S44 → Int) (l : List S44) (x : S44) (a : Nat) : Nat → Nat
  | 0 => a
  | d + 1 => if cf x (itm l (a + d)) < 0 then posD cf l x a d else a + d + 1
theorem posD_le (cf : S44 → S44 → Int) (l : List S44) (x : S44) (a d : Nat) : posD cf l x a d ≤ a + d ∧ a ≤ posD cf l x a d := by
  induction d with
  | zero => simp [posD]
  | succ d ih => unfold posD; split <;> omega
def insOut (cf : S44 → S44 → Int) (l : List S44) (a i : Nat) : List S44 := moveL l (posD cf l (itm l i) a (i - a)) i
theorem insOut_length (cf : S44 → S44 → Int) (l : List S44) (a i : Nat) : (insOut cf l a i).length = l.length := moveL_length _ _ _
/-- k rounds of insertion -/
def insN (cf : S44 → S44 → Int) (l : List S44) (a : Nat) : Nat → List S44
  | 0 => l
  | k + 1 => insOut cf (insN cf l a k) a (a + 1 + k)
theorem insN_length (cf : S44 → S44 → Int) (l : List S44) (a k : Nat) : (insN cf l a k).length = l.length := by
  induction k with
  | zero => rfl
  | succ k ih => rw [insN, insOut_length, ih]
theorem allK_insN {cf : S44 → S44 → Int} {l : List S44} (h : allK l) (a k : Nat) : allK (insN cf l a k) := by
  induction k with
  | zero => exact h
  | succ k ih => exact allK_moveL ih _ _

theorem q_skip {P : Program} {ops : Array Oper} {C : World → Prop} {Q : Act → Prop} {o : Oper} {rest : List Oper} {a : Act} (hw : Region.wanted o (yielded ops a.tmps) = false)
    (k : wpQuiet P ops C Q rest (a.put o.dst undef)) : wpQuiet P ops C Q (o :: rest) a := by
  unfold wpQuiet
  rw [if_neg (by simp [hw])]
  exact k
/-- what is asked of the order while row g is turned: in each such world it tells cf, and lets all be -/
def CmpOK (w : World) (g N : Nat) (gf : Nat) (cb : Array Value) (cf : S44 → S44 → Int) : Prop :=
  (∀ args W, (callFunc gf args).run Tryz.prog W = .ok (.enter gf args) W) ∧
  ∀ M W x y, M.length = N → Srt w g M W → x.f0.size ≤ 9223372036854775807 → y.f0.size ≤ 9223372036854775807 → Calls Tryz.prog gf (#[item x, item y] ++ cb) W fun e w' => e = .returned (.int .i64 (cf x y)) ∧ Below W.heap.size W w'

attribute [local irreducible] wpQuiet
set_option maxRecDepth 100000 in
set_option maxHeartbeats 8000000 in
theorem insertion_any (g cap a b N : Nat) (gf : Nat) (cb : Array Value) (cf : S44 → S44 → Int) (l : List S44) (w : World) (hg : g < w.heap.size) (h : Srt w g l w) (hN : l.length = N) (hl : N ≤ 1000000) (hab : a ≤ b) (hb : b ≤ N) (hk : allK l) (hcmp : CmpOK w g N gf cb cf) :
    Calls Tryz.prog 68 #[.slice (some ⟨g, 0, none⟩) N cap, .int .i64 a, .int .i64 b, .func (.func gf) #[] cb] w fun e w' => e = .returned (.tuple #[]) ∧ Srt w g (insN cf l a (b - a - 1)) w' := by
  have H := Aside0.mk h
  have HK := Aside0.mk hk
  have HN := Aside0.mk hN
  have eg := hcmp.1
  have HC := Aside0.mk hcmp.2
  clear h hk hN hcmp
  go_enter Tryz.func68, Tryz.ntmps68
  go_wp2
  go_loopg [8] (b - a) (fun kq v8 W => ∃ k : Nat, v8 = .int .i64 ((a + 1 + k : Nat) : Int) ∧ (k = 0 ∨ a + 1 + k ≤ b) ∧ b - a - k ≤ kq ∧ Aside0 (Srt w g (insN cf l a k) W))
  case atStart => exact ⟨0, by go_num, by omega, by omega, H⟩
  case round =>
    clear H
    obtain ⟨k, rfl, hka, hkq, H⟩ := hrel
    by_cases hlt : a + 1 + k < b
    · have HKM := Aside0.mk (allK_insN (cf := cf) HK.out a k)
      have HML := Aside0.mk ((insN_length cf l a k).trans HN.out)
      have HNX := Aside0.mk (show insN cf l a (k + 1) = insOut cf (insN cf l a k) a (a + 1 + k) from rfl)
      generalize insN cf l a k = M at H HKM HML HNX
      have hki : a + 1 + k < N := by omega
      obtain ⟨i, hi⟩ : ∃ i, i = a + 1 + k := ⟨_, rfl⟩
      have HI := Aside0.mk hi
      rw [← hi] at hlt hki HNX hka ⊢
      clear hi
      have hai : a < i := by have := HI.out; omega
      go_wp2
      obtain ⟨ko, rfl⟩ : ∃ ko : Nat, ko = gk := ⟨_, rfl⟩
      obtain ⟨wo, rfl⟩ : ∃ wo : World, wo = wr := ⟨_, rfl⟩
      go_loopg [9] (i - a) (fun kq v9 W => ∃ j : Nat, v9 = .int .i64 j ∧ a ≤ j ∧ j ≤ i ∧ j - a ≤ kq ∧ Aside0 (posD cf M (itm M i) a (j - a) = posD cf M (itm M i) a (i - a)) ∧ Aside0 (Srt w g (moveL M j i) W))
      case atStart => exact ⟨i, rfl, by omega, by omega, by omega, ⟨rfl⟩, ⟨by rw [moveL_self]; exact H.out⟩⟩
      case round =>
        clear H
        obtain ⟨j, rfl, hja, hji, hjq, HP, H⟩ := hrel
        have HLM := Aside0.mk ((moveL_length M j i).trans HML.out)
        have HKL := Aside0.mk (allK_moveL HKM.out j i)
        by_cases hj : a < j
        · obtain ⟨q, rfl⟩ : ∃ q, j = q + 1 := ⟨j - 1, by omega⟩
          have hX : itm (moveL M (q + 1) i) (q + 1) = itm M i := by rw [itm_moveL _ _ _ _ (by rw [HML.out]; omega)]; congr 1; unfold moveIdx; rw [if_neg (by omega), if_pos rfl]
          have hY : itm (moveL M (q + 1) i) q = itm M q := by rw [itm_moveL _ _ _ _ (by rw [HML.out]; omega)]; congr 1; unfold moveIdx; rw [if_pos (by omega)]
          have HPS := Aside0.mk (show posD cf M (itm M i) a (q + 1 - a) = if cf (itm M i) (itm M q) < 0 then posD cf M (itm M i) a (q - a) else q + 1 from by
            rw [show q + 1 - a = (q - a) + 1 by omega, posD, show a + (q - a) = q by omega])
          have HSW := Aside0.mk (moveL_swp M (q + 1) i (by omega) hji (by rw [HML.out]; exact hki))
          have HKX := Aside0.mk (HKL.out (q + 1))
          have HKY := Aside0.mk (HKL.out q)
          rw [← hX, ← hY] at HPS
          have HXM := Aside0.mk hX
          clear hX hY HKL
          obtain ⟨L, hL⟩ : ∃ L, L = moveL M (q + 1) i := ⟨_, rfl⟩
          rw [← hL] at H HLM HKX HKY HPS HSW HXM
          have HLD := Aside0.mk hL
          clear hL
          have F1 := fun W (hW : Srt w g L W) => hW.at_ (q + 1) (by rw [HLM.out]; omega)
          have F2 := fun W (hW : Srt w g L W) => hW.at_ q (by rw [HLM.out]; omega)
          have HX := Aside0.mk (show ∀ X, X = itm L (q + 1) → swp L (q + 1) (q + 1 - 1) = (L.set (q + 1) (itm L q)).set q X from fun X e => by rw [e]; rfl)
          generalize hXX : itm L (q + 1) = X at *
          generalize hYY : itm L q = Y at *
          have x0 : ∀ W, Srt w g L W → W.cell? ⟨g, (q + 1) * 4, none⟩ = some (.string X.f0) := fun W hW => (F1 W hW).1
          have x1 : ∀ W, Srt w g L W → W.cell? ⟨g, (q + 1) * 4 + 1, none⟩ = some (.bool X.f1.f0) := fun W hW => (F1 W hW).2.1
          have x2 : ∀ W, Srt w g L W → W.cell? ⟨g, (q + 1) * 4 + 2, none⟩ = some (.int .i64 X.f1.f1) := fun W hW => (F1 W hW).2.2.1
          have x3 : ∀ W, Srt w g L W → W.cell? ⟨g, (q + 1) * 4 + 3, none⟩ = some (.string X.f1.f2) := fun W hW => (F1 W hW).2.2.2
          have y0 : ∀ W, Srt w g L W → W.cell? ⟨g, q * 4, none⟩ = some (.string Y.f0) := fun W hW => (F2 W hW).1
          have y1 : ∀ W, Srt w g L W → W.cell? ⟨g, q * 4 + 1, none⟩ = some (.bool Y.f1.f0) := fun W hW => (F2 W hW).2.1
          have y2 : ∀ W, Srt w g L W → W.cell? ⟨g, q * 4 + 2, none⟩ = some (.int .i64 Y.f1.f1) := fun W hW => (F2 W hW).2.2.1
          have y3 : ∀ W, Srt w g L W → W.cell? ⟨g, q * 4 + 3, none⟩ = some (.string Y.f1.f2) := fun W hW => (F2 W hW).2.2.2
          clear F1 F2
          have wq : IntKind.i64.wrap (q : Int) = (q : Int) := by rw [i64_w]; unfold wrap64; omega
          have pa : (a : Int) < (q : Int) + 1 := by omega
          have pq : (q : Int) + 1 < (N : Int) := by omega
          have pq0 : (0 : Int) ≤ (q : Int) + 1 := by omega
          have pq1 : (q : Int) < (N : Int) := by omega
          go_wp2_with fail
          refine wp_region_quiet (C := Srt w g L) (by kernel_rfl) (by kernel_rfl) H.out.drew ?_
          iterate 14 (
            refine q_step (by rfl) ?_ (fun W hW => ?_) ?_
            rotate_left
            · unfold Oper.quietAt; go_simp; rfl
            simp only [Act.put, List.setIfInBounds_toArray, List.set_cons_zero, List.set_cons_succ])
          refine q_step (by rfl) (.int .i64 (cf X Y)) (fun W hW => ?_) ?_
          · unfold Oper.quietAt; go_simp
            (try simp only [true_and])
            exact (HC.out L W X Y HLM.out hW HKX.out HKY.out).mono fun e w' h => ⟨h.1, hW.below h.2⟩
          simp only [Act.put, List.setIfInBounds_toArray, List.set_cons_zero, List.set_cons_succ]
          iterate 2 (
            refine q_step (by rfl) ?_ (fun W hW => ?_) ?_
            rotate_left
            · unfold Oper.quietAt; go_simp; rfl
            simp only [Act.put, List.setIfInBounds_toArray, List.set_cons_zero, List.set_cons_succ])
          refine wpQuiet_nil ?_
          intro W hW
          have HW := Aside0.mk hW
          clear hW x0 x1 x2 x3 y0 y1 y2 y3
          by_cases hcf : cf X Y < 0
          · rw [if_pos hcf] at HPS
            have hp1 : q + 1 < L.length := by rw [HLM.out]; omega
            have hp2 : q < L.length := by rw [HLM.out]; omega
            obtain ⟨x0, x1, x2, x3⟩ := HW.out.at_ (q + 1) hp1
            obtain ⟨y0, y1, y2, y3⟩ := HW.out.at_ q hp2
            rw [hXX] at x0 x1 x2 x3
            rw [hYY] at y0 y1 y2 y3
            have fp0 := HW.out.free ((q + 1) * 4)
            have fp1 := HW.out.free ((q + 1) * 4 + 1)
            have fp2 := HW.out.free ((q + 1) * 4 + 2)
            have fp3 := HW.out.free ((q + 1) * 4 + 3)
            have H1 := Aside0.mk (HW.out.put (q + 1) hp1 Y)
            have hp3 : q < (L.set (q + 1) Y).length := by simpa using hp2
            obtain ⟨z0, z1, z2, z3⟩ := H1.out.at_ q hp3
            have fq0 := H1.out.free (q * 4)
            have fq1 := H1.out.free (q * 4 + 1)
            have fq2 := H1.out.free (q * 4 + 2)
            have fq3 := H1.out.free (q * 4 + 3)
            have H2 := Aside0.mk (H1.out.put q hp3 X)
            have HE := Aside0.mk (show (L.set (q + 1) Y).set q X = moveL M q i from by rw [← HX.out X rfl, HSW.out]; rfl)
            clear hp1 hp2 hp3 hXX hYY
            go_wp2_with fail
            go_big_region
            all_goals
              go_wp2
              go_roundg (gk - 1)
              (case rel => exact ⟨q, by go_num, by omega, by omega, by omega, ⟨by rw [← HP.out, ← HXM.out, HPS.out]⟩, ⟨by rw [← HE.out]; exact H2.out.drew⟩⟩)
              (case measure => omega)
          · rw [if_neg hcf] at HPS
            clear hXX hYY
            go_wp2
            go_roundg (ko - 1)
            case rel =>
              refine ⟨k + 1, by rw [HI.out]; go_num, by have := HI.out; omega, by have := HI.out; omega, ⟨?_⟩⟩
              rw [HNX.out]
              unfold insOut
              rw [← HP.out, ← HXM.out, HPS.out, ← HLD.out]
              exact HW.out
            case measure => have := HI.out; omega
        · obtain rfl : j = a := by omega
          clear hja hj hjq hji
          have HP0 := Aside0.mk (show posD cf M (itm M i) j (j - j) = j from by rw [Nat.sub_self]; rfl)
          go_wp2_with fail
          refine wp_region_quiet (C := Srt w g (moveL M j i)) (by kernel_rfl) (by kernel_rfl) H.out.drew ?_
          iterate 4 (
            refine q_step (by rfl) ?_ (fun W hW => ?_) ?_
            rotate_left
            · unfold Oper.quietAt; go_simp; rfl
            simp only [Act.put, List.setIfInBounds_toArray, List.set_cons_zero, List.set_cons_succ])
          iterate 12 (
            refine q_skip (by rfl) ?_
            simp only [Act.put, List.setIfInBounds_toArray, List.set_cons_zero, List.set_cons_succ])
          refine q_step (by rfl) ?_ (fun W hW => ?_) ?_
          rotate_left
          · unfold Oper.quietAt; go_simp; rfl
          simp only [Act.put, List.setIfInBounds_toArray, List.set_cons_zero, List.set_cons_succ]
          refine wpQuiet_nil ?_
          intro W hW
          have HW := Aside0.mk hW
          clear hW
          go_wp2
          go_roundg (ko - 1)
          case rel =>
            refine ⟨k + 1, by rw [HI.out]; go_num, by have := HI.out; omega, by have := HI.out; omega, ⟨?_⟩⟩
            rw [HNX.out]
            unfold insOut
            rw [← HP.out, HP0.out]
            exact HW.out
          case measure => have := HI.out; omega
    · have e : k = b - a - 1 := by omega
      have HE := Aside0.mk e
      clear e
      go_wp2
      go_end0
      exact ⟨rfl, by rw [← HE.out]; exact H.out⟩
end Go.Proofs.YtjgmkimekipgmaaGreatDoor.G
