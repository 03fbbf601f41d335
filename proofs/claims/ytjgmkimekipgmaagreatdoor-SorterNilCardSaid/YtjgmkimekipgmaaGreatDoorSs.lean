/- sorter.Sort. -/
import Derived.Test.YtjgmkimekipgmaaGreatDoorCp
namespace Go.Proofs.YtjgmkimekipgmaaGreatDoor.G
open Go.RowKit Go.Sort Go.Proofs.YtjgmkimekipgmaaGreatDoorW.PrintWords Go.Proofs.YtjgmkimekipgmaaGreatDoorW.PrintLast Go.Proofs.YtjgmkimekipgmaaGreatDoorW.PrintMore
set_option linter.unusedVariables false
set_option linter.unusedSimpArgs false

theorem wpList_copy_all2 {P : Program} {w : World} {ops : Array Oper} {rest : List Oper} {o : Oper} {a : Act} {Q : Exit → Act → World → Prop} (hgd : o.guard = none) (d x : Operand) (dT sT : TypeId)
    (ho : o.op = .call { callee := .builtin .copy, args := #[d, x], argTypes := #[dT, sT] }) (elem : TypeId) (s : Nat) (hu : P.underlying dT = some (.slice elem)) (hsz : (P.info? elem).map (·.size) = some s)
    (g n : Nat) (A : Option Addr) (c1 c2 : Nat) (hd : a.eval d = .slice (some ⟨g, 0, none⟩) n c1) (hs : a.eval x = .slice A n c2)
    (cur : Array Value) (t : TypeId) (hg : w.heap[g]? = some (.cells cur t (0, 0))) (cs : List Value) (hn : cs.length = n * s) (hsize : cur.size = n * s)
    (hsrc : 0 < n → ∃ ad, A = some ad ∧ ∀ j v, cs[j]? = some v → w.cell? (ad.add j) = some v) (h1 : ∀ v ∈ cs, v.oneCell' = true)
    (h : ∀ w', w'.heap[g]? = some (.cells cs.toArray t (0, 0)) ∧ w'.os = w.os ∧ w'.tape = w.tape ∧ w'.output = w.output ∧ w'.heap.size = w.heap.size ∧ (∀ k, k ≠ g → w'.heap[k]? = w.heap[k]?) → wpList P ops Q rest (a.put o.dst (goInt n)) w') : wpList P ops Q (o :: rest) a w :=
  wpList_copy_all hgd d x dT sT ho elem s hu hsz g n A c1 c2 hd hs cur t hg cs hn hsize hsrc h1
    (h _ ⟨setRow_heap w g cur _ t _ hg, rfl, rfl, rfl, by simp [World.setRow], fun k hk => setRow_other w g k _ hk⟩)
theorem icell_one (l : List S44) : ∀ v ∈ l.flatMap icell, v.oneCell' = true := by
  intro v hv
  obtain ⟨x, _, hx⟩ := List.mem_flatMap.1 hv
  simp only [icell, List.mem_cons, List.not_mem_nil, or_false] at hx
  rcases hx with rfl | rfl | rfl | rfl <;> rfl
theorem keysB_allK {l : List S44} (h : keysB l = true) : allK l := by
  intro t
  by_cases ht : t < l.length
  · rw [itm_lt _ _ ht]; exact keysB_all h _ (List.getElem_mem _)
  · rw [itm_out _ _ (by omega)]; decide

def JcArr (j : JC) : Array Value := j.arr
def Row (w : World) (g : Nat) (l : List S44) : Prop := w.heap[g]? = some (.cells (icells l) 44 (0, 0))
def Jrow (w : World) (g : Nat) (j : JC) : Prop := w.heap[g]? = some (.cells j.arr 26 (0, 0))
set_option maxRecDepth 100000 in
set_option maxHeartbeats 4000000 in
theorem stableFunc_short (g cap N : Nat) (gb : Nat) (j : JC) (l : List S44) (w : World) (hr : Row w g l) (hj : Jrow w gb j) (hgb : gb ≠ g) (hN : l.length = N) (hl : N < 20) (hk : allK l) :
    Calls Tryz.prog 55 #[.slice (some ⟨g, 0, none⟩) N cap, .func (.func 65) #[] #[.pointer (some ⟨gb, 0, none⟩)]] w fun e w' => e = .returned (.tuple #[]) ∧ Srt w g (insN (orderC j.down j.num) l 0 (N - 0 - 1)) w' := by
  have HS := Aside0.mk (stable_short g cap N 65 #[.pointer (some ⟨gb, 0, none⟩)] (orderC j.down j.num) l w (blk_lt hr) (.start hr) hN hl hk
    ⟨enters_order, fun M W x y _ hW hx hy => order_any j x y gb W ((hW.block gb (blk_lt hj) hgb).trans hj) hx hy⟩)
  clear hr hj hk hN
  go_enter Tryz.func55, Tryz.ntmps55
  go_wp2_with (go_at_call 64; refine HS.out.mono ?_; rintro e w1 ⟨rfl, h1⟩; have H1 := Aside0.mk h1; clear h1)
  go_end0
  exact ⟨rfl, H1.out⟩

theorem row_ne {w : World} {g gb : Nat} {l : List S44} {j : JC} (h : Row w g l) (hj : Jrow w gb j) : gb ≠ g := by
  rintro rfl
  unfold Row at h
  unfold Jrow at hj
  rw [h] at hj
  injection hj with hj
  injection hj with _ hj
  cases hj
set_option maxRecDepth 100000 in
set_option maxHeartbeats 4000000 in
theorem sorter_Sort.any (j : JC) (A1 : Option Addr) (c1 : Nat) (l1 : List S44) (w : World) (hr1 : Kd.C k44 w A1 l1.length l1) (hc1 : l1.length ≤ c1) (hk : keysB l1 = true) (hl : l1.length < 20) :
    Calls Tryz.prog 28 #[.agg j.arr, .slice A1 l1.length c1] w fun e w' => ∃ v0_ : Value, e = .returned (v0_) ∧ Kd.R k44 44 w' w.heap.size (fun _ => True) v0_ (insN (orderC j.down j.num) l1 0 (l1.length - 0 - 1)) ∧ Below w.heap.size w w' := by
  have HR := Aside0.mk hr1
  have HK := Aside0.mk (keysB_allK hk)
  have HO := Aside0.mk (show ∀ W, _ from fun W => sorter_order.any j W)
  have HJA := Aside0.mk (show JcArr j = j.arr from rfl)
  have HM := made_items l1.length (by omega)
  have HFIN : Aside0 (∀ w2 w1 w', Below (w.heap.size + 1 + 1) w2 w1 → (w2.os = w.os ∧ w2.tape = w.tape ∧ w2.output = w.output ∧ w2.heap.size = w.heap.size + 2 ∧ ∀ k, k < w.heap.size → w2.heap[k]? = w.heap[k]?) → Srt w1 (w.heap.size + 1) (insN (orderC j.down j.num) l1 0 (l1.length - 0 - 1)) w' →
      Kd.R k44 44 w' w.heap.size (fun _ => True) (.slice (some ⟨w.heap.size + 1, 0, none⟩) l1.length l1.length) (insN (orderC j.down j.num) l1 0 (l1.length - 0 - 1)) ∧ Below w.heap.size w w') := ⟨fun w2 w1 w' hb h2 hs => by
    have e := insN_length (orderC j.down j.num) l1 0 (l1.length - 0 - 1)
    have := items_R (base := w.heap.size) hs.row (by omega) (by rw [e]; omega)
    rw [e] at this
    refine ⟨this, ?_⟩
    have hsz := hb.size
    exact ⟨hs.os.trans (hb.os.trans h2.1), hs.tape.trans (hb.tape.trans h2.2.1), hs.output.trans (hb.output.trans h2.2.2.1), by have := hs.size; omega, fun k hk => (hs.block k (by omega) (by omega)).trans ((hb.block k (by omega)).trans (h2.2.2.2.2 k hk))⟩⟩
  clear hr1 hk
  rw [← HJA.out]
  have HBA := Aside0.mk (show ∀ A B, Below w.heap.size w ((w.alloc A).alloc B) from fun A B => below_alloc (below_alloc (Below.refl _ _) _) _)
  go_enter Tryz.func28, Tryz.ntmps28
  go_wp2_with (first
    | ((with_reducible refine gate_dst (N := 11) rfl ?_)
       refine wpList_copy_all2 (by rfl) (.tmp 9) (.tmp 10) 50 50 (by rfl) 44 4 (by rfl) (by kernel_rfl) (w.heap.size + 1) l1.length A1 l1.length c1 (by rfl) (by rfl) (zItems l1.length) 44 (blk_new2 _ _ _) (l1.flatMap icell) (flat_len _) (zItems_size _) (fun h0 => cells_of_C (Kd.C_below HR.out (HBA.out _ _)) h0) (icell_one _) ?_
       intro w2 h2
       have HROW := Aside0.mk (show Row w2 (w.heap.size + 1) l1 from h2.1)
       have HJ2 := Aside0.mk (show w2.heap[w.heap.size]? = some (.cells (JcArr j) 26 (0, 0)) from (h2.2.2.2.2.2 _ (by omega)).trans (blk_alloc (blk_new _ _) _))
       have HW2 := Aside0.mk (show w2.os = w.os ∧ w2.tape = w.tape ∧ w2.output = w.output ∧ w2.heap.size = w.heap.size + 2 ∧ ∀ k, k < w.heap.size → w2.heap[k]? = w.heap[k]? from ⟨h2.2.1.trans rfl, h2.2.2.1.trans rfl, h2.2.2.2.1.trans rfl, by rw [h2.2.2.2.2.1]; simp, fun k hk => (h2.2.2.2.2.2 k (by omega)).trans ((HBA.out _ _).block k hk)⟩)
       clear h2)
    | ((with_reducible refine gate_dst (N := 13) rfl ?_); refine wpList_load_row (by rfl) 26 _ (by rfl) w.heap.size (by rfl) 26 (JcArr j) (0, 0) _ HJ2.out Tryz.underlying26 (by rfl) (by kernel_rfl) ?_)
    | (go_at_call 56; refine (HO.out _).mono ?_; rintro e w3 ⟨gb, rfl, hj, hb⟩; have HJ := Aside0.mk hj; have HB := Aside0.mk hb; clear hj hb)
    | (go_at_call 55; refine (stableFunc_short (w.heap.size + 1) l1.length l1.length gb j l1 w3 (blk_below HROW.out HB.out) HJ.out (row_ne (blk_below HROW.out HB.out) HJ.out) rfl hl HK.out).mono ?_; rintro e w4 ⟨rfl, hs⟩
       have HF := Aside0.mk (HFIN.out w2 w3 w4 (by have h := HW2.out.2.2.2.1; rw [show w.heap.size + 1 + 1 = w2.heap.size from h.symm]; exact HB.out) HW2.out hs)
       clear hs))
  go_ret
  exact ⟨_, rfl, HF.out⟩
end Go.Proofs.YtjgmkimekipgmaaGreatDoor.G
