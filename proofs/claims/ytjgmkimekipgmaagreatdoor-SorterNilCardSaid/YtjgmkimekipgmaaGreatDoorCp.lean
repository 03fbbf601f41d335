/- Rows of items made, and copied: make([]Item, n); copy(out, l); a row of items as a row that was made. -/
import Derived.Test.YtjgmkimekipgmaaGreatDoorSt
import Derived.Laws.CopyOwn
import Derived.Laws.MakeOwn
namespace Go.Proofs.YtjgmkimekipgmaaGreatDoor.G
open Go.RowKit Go.Sort Go.Proofs.YtjgmkimekipgmaaGreatDoorW.PrintWords Go.Proofs.YtjgmkimekipgmaaGreatDoorW.PrintLast Go.Proofs.YtjgmkimekipgmaaGreatDoorW.PrintMore
set_option linter.unusedVariables false
set_option linter.unusedSimpArgs false

theorem k_icell {w : World} {x : S44} {c : List Value} (h : k44.K w x c) : c = icell x := by
  obtain ⟨c0, c1, rfl, rfl, c2, c3, rfl, rfl, c4, c5, rfl, rfl, rfl⟩ := h
  rfl
theorem icell_m (w : World) (b : Nat) (ok : Nat → Prop) (x : S44) : k44.M w b ok x (icell x) := ⟨_, _, rfl, rfl, _, _, rfl, rfl, _, _, rfl, rfl, rfl⟩
theorem flat_len (l : List S44) : (l.flatMap icell).length = l.length * 4 := by have := icells_size l; unfold icells at this; simpa using this
theorem flat_at (l : List S44) (i j : Nat) (hi : i < l.length) (hj : j < 4) : (l.flatMap icell)[i * 4 + j]? = (icell l[i])[j]? := by
  have := icells_at l i j hi hj
  unfold icells at this
  simpa using this
theorem cells_of_C {w : World} {A : Option Addr} {l : List S44} (h : Kd.C k44 w A l.length l) (h0 : 0 < l.length) :
    ∃ ad, A = some ad ∧ ∀ j v, (l.flatMap icell)[j]? = some v → w.cell? (ad.add j) = some v := by
  obtain ⟨ad, e, hc⟩ := h.2.2 h0
  refine ⟨ad, e, fun j v hv => ?_⟩
  have hj : j < l.length * 4 := by
    rw [← flat_len]
    exact (List.getElem?_eq_some_iff.1 hv).1
  have hi : j / 4 < l.length := by omega
  obtain ⟨c, hs, hk, hcell⟩ := hc (j / 4) _ (List.getElem?_eq_getElem hi)
  have hjj : j / 4 * 4 + j % 4 = j := by omega
  have e2 := flat_at l (j / 4) (j % 4) hi (by omega)
  rw [hjj, hv] at e2
  rw [k_icell hk] at hcell
  have := hcell (j % 4) v e2.symm
  rwa [show j / 4 * k44.sz + j % 4 = j from hjj] at this
/-- a row of items in a block of its own, as a row that was made -/
theorem items_R {w : World} {g base : Nat} {l : List S44} (h : w.heap[g]? = some (.cells (icells l) 44 (0, 0))) (hb : base ≤ g) (hl : l.length ≤ 1000000) :
    Kd.R k44 44 w base (fun _ => True) (.slice (some ⟨g, 0, none⟩) l.length l.length) l := by
  refine ⟨fun _ _ => trivial, l.flatMap icell, ⟨flat_len l, .inr ⟨g, l.length, icells l, rfl, hb, h, Nat.le_refl _, ?_, icells_size l, ?_⟩⟩, ?_, ?_⟩
  · have : (1000000 : Nat) ≤ maxLen := by simp only [maxLen]; omega
    omega
  · show List.take (l.length * 4) (l.flatMap icell) = _
    rw [List.take_of_length_le (by rw [flat_len]; exact Nat.le_refl _)]
  · exact flat_len l
  · intro j p hp
    obtain ⟨hj, rfl⟩ := List.getElem?_eq_some_iff.1 hp
    have : ((l.flatMap icell).drop (j * k44.sz)).take k44.sz = icell l[j] := by
      apply List.ext_getElem?
      intro r
      simp only [show k44.sz = 4 from rfl]
      by_cases hr : r < 4
      · rw [List.getElem?_take_of_lt hr, List.getElem?_drop]
        exact flat_at l j r hj hr
      · rw [List.getElem?_eq_none (by simp; omega), List.getElem?_eq_none (by simp [icell]; omega)]
    rw [this]
    exact icell_m _ _ _ _
def zItems (n : Nat) : Array Value := madeCells (Value.agg #[.string ⟨#[]⟩, .bool false, .int .i64 0, .string ⟨#[]⟩]).cells (n * 4)
theorem zItems_size (n : Nat) : (zItems n).size = n * 4 := size_madeCells _ _
set_option maxRecDepth 100000 in
theorem made_items (n : Nat) (h : n ≤ 1000000) (W : World) : (Instr.makeSlice 50 (.int .i64 (n : Int)) (.int .i64 (n : Int))).run Tryz.prog W =
    .ok (.slice (some ⟨W.heap.size, 0, none⟩) n n) (W.alloc (.cells (zItems n) 44)) := by
  obtain ⟨i, h2, h3, h4, h5⟩ : ∃ i, (Tryz.prog).info? 44 = some i ∧ i.zero = some (.agg #[.string ⟨#[]⟩, .bool false, .int .i64 0, .string ⟨#[]⟩]) ∧ i.size = 4 ∧ i.bytes = 48 := by
    have h := show ((Tryz.prog).info? 44).map (fun i => (i.zero, i.size, i.bytes)) = some (some (.agg #[.string ⟨#[]⟩, .bool false, .int .i64 0, .string ⟨#[]⟩]), 4, 48) by kernel_rfl
    obtain ⟨i, hi, hzz⟩ := Option.map_eq_some_iff.1 h
    simp only [Prod.mk.injEq] at hzz
    exact ⟨i, hi, hzz⟩
  have hr := run_make (P := Tryz.prog) (w := W) 50 44 i _ (by rfl) h2 h3 .i64 .i64 (n : Int) (n : Int) (by omega) (by omega) (by rw [h5]; omega) (by omega)
  rw [hr, h4]
  rfl
/-- copy(out, l), both n elements of s cells -/
theorem wpList_copy_all {P : Program} {w : World} {ops : Array Oper} {rest : List Oper} {o : Oper} {a : Act} {Q : Exit → Act → World → Prop} (hgd : o.guard = none) (d x : Operand) (dT sT : TypeId)
    (ho : o.op = .call { callee := .builtin .copy, args := #[d, x], argTypes := #[dT, sT] }) (elem : TypeId) (s : Nat) (hu : P.underlying dT = some (.slice elem)) (hsz : (P.info? elem).map (·.size) = some s)
    (g n : Nat) (A : Option Addr) (c1 c2 : Nat) (hd : a.eval d = .slice (some ⟨g, 0, none⟩) n c1) (hs : a.eval x = .slice A n c2)
    (cur : Array Value) (t : TypeId) (hg : w.heap[g]? = some (.cells cur t (0, 0))) (cs : List Value) (hn : cs.length = n * s) (hsize : cur.size = n * s)
    (hsrc : 0 < n → ∃ ad, A = some ad ∧ ∀ j v, cs[j]? = some v → w.cell? (ad.add j) = some v) (h1 : ∀ v ∈ cs, v.oneCell' = true)
    (h : wpList P ops Q rest (a.put o.dst (goInt n)) (w.setRow g cs.toArray)) : wpList P ops Q (o :: rest) a w := by
  refine wpList_plain hgd fun K hK => ?_
  have hf : (Builtin.firstCells s n (.slice A n c2)).run P w = .ok cs.toArray w := by
    by_cases h0 : 0 < n
    · obtain ⟨ad, rfl, hc⟩ := hsrc h0
      have hl := run_loadCells_list (P := P) w ad cs hc
      rw [hn] at hl
      simpa [Builtin.firstCells] using hl
    · have : n = 0 := by omega
      subst this
      have : cs = [] := List.eq_nil_of_length_eq_zero (by omega)
      subst this
      cases A with
      | none => simp [Builtin.firstCells]
      | some ad =>
        have hl := run_loadCells_list (P := P) w ad [] (by simp)
        simpa [Builtin.firstCells] using hl
  have hst := run_storeCells_at P g 0 t cs 0 cur w hg (by simp; omega) h1
  have hst2 : (storeCells ⟨g, 0, none⟩ cs).run P w = .ok () (w.setRow g cs.toArray) := by
    rw [hst]
    congr 2
    rw [hn, List.drop_of_length_le (by simp; omega)]
    simp
  unfold Oper.wp
  cases hq : P.info? elem with
  | none => simp [hq] at hsz
  | some i =>
    have hi : i.size = s := by simpa [hq] using hsz
    simp [execOp, ho, resolve, invoke, builtin, hd, hs, Builtin.copy_, run_underlying hu, Builtin.lenOf, sizeOf, typeInfo, hq, hi, hf, hst2, Result.andThen]
    exact hK _ _ h
end Go.Proofs.YtjgmkimekipgmaaGreatDoor.G
