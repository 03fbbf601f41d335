/- Exchanges of items: swapRange, rotate. -/
import Derived.Test.YtjgmkimekipgmaaGreatDoorSo
import Derived.BigRegion
namespace Go.Proofs.YtjgmkimekipgmaaGreatDoor.G
open Go.RowKit Go.Sort Go.Proofs.YtjgmkimekipgmaaGreatDoorW.PrintWords Go.Proofs.YtjgmkimekipgmaaGreatDoorW.PrintLast Go.Proofs.YtjgmkimekipgmaaGreatDoorW.PrintMore
set_option linter.unusedVariables false
set_option linter.unusedSimpArgs false

def itm (l : List S44) (i : Nat) : S44 := l.getD i z44
def swp (l : List S44) (i j : Nat) : List S44 := (l.set i (itm l j)).set j (itm l i)
theorem swp_length (l : List S44) (i j : Nat) : (swp l i j).length = l.length := by simp [swp]
def swapR (l : List S44) (a b : Nat) : Nat → List S44
  | 0 => l
  | k + 1 => swp (swapR l a b k) (a + k) (b + k)
theorem swapR_length (l : List S44) (a b k : Nat) : (swapR l a b k).length = l.length := by
  induction k with
  | zero => rfl
  | succ k ih => rw [swapR, swp_length, ih]
namespace Srt
variable {W0 W W1 : World} {g : Nat} {l : List S44}
theorem at_ (h : Srt W0 g l W) (i : Nat) (hi : i < l.length) :
    W.cell? ⟨g, i * 4, none⟩ = some (.string (itm l i).f0) ∧ W.cell? ⟨g, i * 4 + 1, none⟩ = some (.bool (itm l i).f1.f0) ∧ W.cell? ⟨g, i * 4 + 2, none⟩ = some (.int .i64 (itm l i).f1.f1) ∧ W.cell? ⟨g, i * 4 + 3, none⟩ = some (.string (itm l i).f1.f2) := by
  have e : itm l i = l[i] := by unfold itm; rw [List.getD_eq_getElem?_getD, List.getElem?_eq_getElem hi]; rfl
  rw [e]
  exact h.item i hi
end Srt
set_option maxRecDepth 100000 in
set_option maxHeartbeats 4000000 in
theorem swapRange_any (g cap a b n : Nat) (f : Value) (l : List S44) (w : World) (h : Srt w g l w) (hl : l.length ≤ 1000000) (ha : a + n ≤ l.length) (hb : b + n ≤ l.length) :
    Calls Tryz.prog 86 #[.slice (some ⟨g, 0, none⟩) l.length cap, .int .i64 a, .int .i64 b, .int .i64 n, f] w fun e w' => e = .returned (.tuple #[]) ∧ Srt w g (swapR l a b n) w' := by
  have H := Aside0.mk h
  obtain ⟨N, hN⟩ : ∃ N, N = l.length := ⟨_, rfl⟩
  have HN := Aside0.mk hN
  rw [← hN] at hl ha hb ⊢
  clear h hN
  go_enter Tryz.func86, Tryz.ntmps86
  go_wp2
  go_loopg [10] n (fun kq v10 W => ∃ i : Nat, v10 = .int .i64 i ∧ i ≤ n ∧ n - i ≤ kq ∧ Aside0 (Srt w g (swapR l a b i) W))
  case atStart => exact ⟨0, rfl, by omega, by omega, H⟩
  case round =>
    clear H
    obtain ⟨i, rfl, hi, hik, H⟩ := hrel
    by_cases hlt : i < n
    · have hlen := swapR_length l a b i
      obtain ⟨x0, x1, x2, x3⟩ := H.out.at_ (a + i) (by rw [hlen, ← HN.out]; omega)
      obtain ⟨y0, y1, y2, y3⟩ := H.out.at_ (b + i) (by rw [hlen, ← HN.out]; omega)
      have hsw : ∀ (W : World), swapR l a b (i + 1) = swp (swapR l a b i) (a + i) (b + i) := fun _ => rfl
      unfold swp at hsw
      go_wp2_with fail
      have wa : IntKind.i64.wrap ((a : Int) + (i : Int)) = ((a + i : Nat) : Int) := by rw [i64_w]; unfold wrap64; omega
      have wb : IntKind.i64.wrap ((b : Int) + (i : Int)) = ((b + i : Nat) : Int) := by rw [i64_w]; unfold wrap64; omega
      have pa : ((a + i : Nat) : Int) < (N : Int) := by omega
      have pb : ((b + i : Nat) : Int) < (N : Int) := by omega
      have pa0 : 0 ≤ ((a + i : Nat) : Int) := by omega
      have pb0 : 0 ≤ ((b + i : Nat) : Int) := by omega
      have hpl : a + i < (swapR l a b i).length := by rw [hlen, ← HN.out]; omega
      have hql : b + i < (swapR l a b i).length := by rw [hlen, ← HN.out]; omega
      have HS := Aside0.mk (show swapR l a b (i + 1) = ((swapR l a b i).set (a + i) (itm (swapR l a b i) (b + i))).set (b + i) (itm (swapR l a b i) (a + i)) from rfl)
      clear hsw
      generalize swapR l a b i = L at *
      generalize a + i = p at *
      generalize b + i = q at *
      generalize itm L q = Y at *
      generalize itm L p = X at *
      have fp0 := H.out.free (p * 4)
      have fp1 := H.out.free (p * 4 + 1)
      have fp2 := H.out.free (p * 4 + 2)
      have fp3 := H.out.free (p * 4 + 3)
      have H1 := Aside0.mk (H.out.put p hpl Y)
      have hql' : q < (L.set p Y).length := by simpa using hql
      obtain ⟨z0, z1, z2, z3⟩ := H1.out.at_ q hql'
      have fq0 := H1.out.free (q * 4)
      have fq1 := H1.out.free (q * 4 + 1)
      have fq2 := H1.out.free (q * 4 + 2)
      have fq3 := H1.out.free (q * 4 + 3)
      have H2 := Aside0.mk (H1.out.put q hql' X)
      clear hpl hql hql'
      go_big_region
      all_goals
        go_wp2
        go_roundg (gk - 1)
        (case rel => exact ⟨i + 1, by go_num, by omega, by omega, ⟨by rw [HS.out]; exact H2.out.drew⟩⟩)
        (case measure => omega)
    · obtain rfl : i = n := by omega
      go_wp2
      go_end0
      exact ⟨rfl, H.out⟩
theorem swapRange_z {g cap a b n N : Nat} {ai bi ni : Int} {f : Value} {l : List S44} {w : World} (ea : ai = (a : Int)) (eb : bi = (b : Int)) (en : ni = (n : Int)) (eN : l.length = N) (h : Srt w g l w) (hl : N ≤ 1000000) (ha : a + n ≤ N) (hb : b + n ≤ N) :
    Calls Tryz.prog 86 #[.slice (some ⟨g, 0, none⟩) N cap, .int .i64 ai, .int .i64 bi, .int .i64 ni, f] w fun e w' => e = .returned (.tuple #[]) ∧ Srt w g (swapR l a b n) w' := by
  subst ea eb en eN
  exact swapRange_any g cap a b n f l w h hl ha hb
end Go.Proofs.YtjgmkimekipgmaaGreatDoor.G
