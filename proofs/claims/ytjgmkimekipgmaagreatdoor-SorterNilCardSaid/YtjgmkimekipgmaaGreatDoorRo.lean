/- Two rows side by side change places: rotate. -/
import Derived.Test.YtjgmkimekipgmaaGreatDoorSw
namespace Go.Proofs.YtjgmkimekipgmaaGreatDoor.G
open Go.RowKit Go.Sort Go.Proofs.YtjgmkimekipgmaaGreatDoorW.PrintWords Go.Proofs.YtjgmkimekipgmaaGreatDoorW.PrintLast Go.Proofs.YtjgmkimekipgmaaGreatDoorW.PrintMore
set_option linter.unusedVariables false
set_option linter.unusedSimpArgs false

theorem itm_lt (l : List S44) (t : Nat) (h : t < l.length) : itm l t = l[t] := by unfold itm; rw [List.getD_eq_getElem?_getD, List.getElem?_eq_getElem h]; rfl
theorem itm_ext {l m : List S44} (hl : l.length = m.length) (h : ∀ t, t < l.length → itm l t = itm m t) : l = m := by
  apply List.ext_getElem hl
  intro t h1 h2
  have := h t h1
  rwa [itm_lt l t h1, itm_lt m t h2] at this
theorem itm_swp (l : List S44) (i j t : Nat) (hi : i < l.length) (hj : j < l.length) : itm (swp l i j) t = if t = j then itm l i else if t = i then itm l j else itm l t := by
  unfold swp
  conv => lhs; unfold itm
  rw [List.getD_eq_getElem?_getD, List.getElem?_set]
  by_cases h1 : t = j
  · subst h1
    simp [hj]
    unfold itm
    rw [List.getD_eq_getElem?_getD]
  · rw [if_neg (fun e => h1 e.symm), if_neg h1, List.getElem?_set]
    by_cases h2 : t = i
    · subst h2
      simp [hi]
      unfold itm
      rw [List.getD_eq_getElem?_getD]
    · rw [if_neg (fun e => h2 e.symm), if_neg h2]
      unfold itm
      rw [List.getD_eq_getElem?_getD]
def swapIdx (a b k t : Nat) : Nat := if a ≤ t ∧ t < a + k then t - a + b else if b ≤ t ∧ t < b + k then t - b + a else t
theorem itm_swapR (l : List S44) (a b : Nat) : ∀ k, a + k ≤ b → b + k ≤ l.length → ∀ t, t < l.length → itm (swapR l a b k) t = itm l (swapIdx a b k t)
  | 0, _, _, t, _ => by
    unfold swapIdx
    rw [if_neg (by omega), if_neg (by omega)]
    rfl
  | k + 1, h1, h2, t, ht => by
    have ih := itm_swapR l a b k (by omega) (by omega)
    rw [swapR, itm_swp _ _ _ _ (by rw [swapR_length]; omega) (by rw [swapR_length]; omega), ih _ (by omega), ih _ (by omega), ih t ht]
    unfold swapIdx
    repeat' split
    all_goals first
      | rfl
      | (congr 1; omega)
      | omega
def rotIdx (a m b t : Nat) : Nat := if t < a then t else if t < a + (b - m) then t - a + m else if t < b then t - (b - m) else t
def rot (l : List S44) (a m b : Nat) : List S44 := (List.range l.length).map (fun t => itm l (rotIdx a m b t))
theorem rot_length (l : List S44) (a m b : Nat) : (rot l a m b).length = l.length := by simp [rot]
theorem itm_rot (l : List S44) (a m b t : Nat) (h : t < l.length) : itm (rot l a m b) t = itm l (rotIdx a m b t) := by
  rw [itm_lt _ _ (by rw [rot_length]; exact h)]
  simp [rot]
theorem rotIdx_lt {a m b t n : Nat} (h1 : a ≤ m) (h2 : m ≤ b) (h3 : b ≤ n) (ht : t < n) : rotIdx a m b t < n := by
  unfold rotIdx
  repeat' split
  all_goals omega
theorem rot_step1 (l : List S44) (m i j : Nat) (h1 : j < i) (h2 : i ≤ m) (h3 : m + j ≤ l.length) : rot (swapR l (m - i) m j) (m - (i - j)) m (m + j) = rot l (m - i) m (m + j) := by
  apply itm_ext (by rw [rot_length, rot_length, swapR_length])
  intro t ht
  rw [rot_length, swapR_length] at ht
  rw [itm_rot _ _ _ _ _ (by rw [swapR_length]; exact ht), itm_rot _ _ _ _ _ ht, itm_swapR _ _ _ _ (by omega) (by omega) _ (rotIdx_lt (by omega) (by omega) h3 ht)]
  congr 1
  unfold swapIdx rotIdx
  repeat' split
  all_goals omega
theorem rot_step2 (l : List S44) (m i j : Nat) (h1 : i < j) (h2 : i ≤ m) (h3 : m + j ≤ l.length) : rot (swapR l (m - i) (m + j - i) i) (m - i) m (m + (j - i)) = rot l (m - i) m (m + j) := by
  apply itm_ext (by rw [rot_length, rot_length, swapR_length])
  intro t ht
  rw [rot_length, swapR_length] at ht
  rw [itm_rot _ _ _ _ _ (by rw [swapR_length]; exact ht), itm_rot _ _ _ _ _ ht, itm_swapR _ _ _ _ (by omega) (by omega) _ (rotIdx_lt (by omega) (by omega) (by omega) ht)]
  congr 1
  unfold swapIdx rotIdx
  repeat' split
  all_goals omega
theorem rot_end (l : List S44) (m i : Nat) (h2 : i ≤ m) (h3 : m + i ≤ l.length) : swapR l (m - i) m i = rot l (m - i) m (m + i) := by
  apply itm_ext (by rw [rot_length, swapR_length])
  intro t ht
  rw [swapR_length] at ht
  rw [itm_rot _ _ _ _ _ ht, itm_swapR _ _ _ _ (by omega) (by omega) _ ht]
  congr 1
  unfold swapIdx rotIdx
  repeat' split
  all_goals omega
set_option maxRecDepth 100000 in
set_option maxHeartbeats 4000000 in
theorem rotate_any (g cap a m b : Nat) (f : Value) (l : List S44) (w : World) (h : Srt w g l w) (hl : l.length ≤ 1000000) (ha : a < m) (hb : m < b) (hbl : b ≤ l.length) :
    Calls Tryz.prog 76 #[.slice (some ⟨g, 0, none⟩) l.length cap, .int .i64 a, .int .i64 m, .int .i64 b, f] w fun e w' => e = .returned (.tuple #[]) ∧ Srt w g (rot l a m b) w' := by
  have H := Aside0.mk h
  obtain ⟨N, hN⟩ : ∃ N, N = l.length := ⟨_, rfl⟩
  have HN := Aside0.mk hN
  rw [← hN] at hl hbl ⊢
  clear h hN
  go_enter Tryz.func76, Tryz.ntmps76
  go_wp2
  go_loopg [10, 11] (m - a + (b - m)) (fun kq v10 v11 W => ∃ (i j : Nat) (L : List S44), v10 = .int .i64 i ∧ v11 = .int .i64 j ∧ 0 < i ∧ 0 < j ∧ i ≤ m ∧ m + j ≤ N ∧ i + j ≤ kq ∧ Aside0 (L.length = N) ∧ Aside0 (rot L (m - i) m (m + j) = rot l a m b) ∧ Aside0 (Srt w g L W))
  case atStart => exact ⟨m - a, b - m, l, by go_num, by go_num, by omega, by omega, by omega, by omega, by omega, ⟨HN.out.symm⟩, ⟨by rw [show m - (m - a) = a by omega, show m + (b - m) = b by omega]⟩, H⟩
  case round =>
    clear H
    obtain ⟨i, j, L, rfl, rfl, hi0, hj0, him, hjN, hk, HL, HE, H⟩ := hrel
    by_cases hij : i = j
    · subst hij
      have hb : ((i : Int) != (i : Int)) = false := by simp
      go_wp2_with (first
        | (go_at_call 86; refine (swapRange_z (a := m - i) (b := m) (n := i) (by omega) rfl rfl HL.out (Srt.start H.out.row) hl (by omega) (by omega)).mono ?_; rintro e w1 ⟨rfl, hs⟩))
      go_end0
      exact ⟨rfl, by rw [← HE.out, ← rot_end L m i him (by rw [HL.out]; exact hjN)]; exact H.out.trans hs⟩
    · have hb : ((i : Int) != (j : Int)) = true := by simp; omega
      by_cases hlt : j < i
      · go_wp2_with (first
          | (go_at_call 86; refine (swapRange_z (a := m - i) (b := m) (n := j) (by omega) rfl rfl HL.out (Srt.start H.out.row) hl (by omega) (by omega)).mono ?_; rintro e w1 ⟨rfl, hs⟩; have HS := Aside0.mk hs; clear hs))
        go_roundg (gk - 1)
        case rel => exact ⟨i - j, j, swapR L (m - i) m j, by go_num, rfl, by omega, by omega, by omega, by omega, by omega, ⟨by rw [swapR_length]; exact HL.out⟩, ⟨by rw [rot_step1 L m i j hlt him (by rw [HL.out]; exact hjN)]; exact HE.out⟩, ⟨H.out.trans HS.out⟩⟩
        case measure => omega
      · go_wp2_with (first
          | (go_at_call 86; refine (swapRange_z (a := m - i) (b := m + j - i) (n := i) (by omega) (by omega) rfl HL.out (Srt.start H.out.row) hl (by omega) (by omega)).mono ?_; rintro e w1 ⟨rfl, hs⟩; have HS := Aside0.mk hs; clear hs))
        go_roundg (gk - 1)
        case rel => exact ⟨i, j - i, swapR L (m - i) (m + j - i) i, rfl, by go_num, by omega, by omega, by omega, by omega, by omega, ⟨by rw [swapR_length]; exact HL.out⟩, ⟨by rw [rot_step2 L m i j (by omega) him (by rw [HL.out]; exact hjN)]; exact HE.out⟩, ⟨H.out.trans HS.out⟩⟩
        case measure => omega
end Go.Proofs.YtjgmkimekipgmaaGreatDoor.G
