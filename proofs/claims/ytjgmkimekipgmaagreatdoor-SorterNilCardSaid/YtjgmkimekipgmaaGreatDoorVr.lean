import Derived.Test.YtjgmkimekipgmaaGreatDoorVo
import Derived.Laws.EntriesVeiled
namespace Go.Proofs.YtjgmkimekipgmaaGreatDoor.G
open Go.RowKit Go.Sort Go.Proofs.YtjgmkimekipgmaaGreatDoorW.PrintWords Go.Proofs.YtjgmkimekipgmaaGreatDoorW.PrintLast Go.Proofs.YtjgmkimekipgmaaGreatDoorW.PrintMore

def isOp (o : Int) : Bool := decide (4 ≤ o ∧ o ≤ 21)
def takesOf : Int → List Int
  | 4 => [0, 0] | 5 => [0, 0] | 6 => [0, 0] | 7 => [0, 0] | 8 => [0, 0]
  | 9 => [1, 1] | 10 => [1] | 11 => [1, 0, 0] | 12 => [1] | 13 => [1] | 14 => [2, 2] | 15 => [2, 2] | 16 => [0] | 17 => [0, 2, 2]
  | 18 => [1] | 19 => [0] | 20 => [1] | 21 => [1, 1] | _ => []
def tellsOf : Int → Int
  | 9 => 1 | 11 => 1 | 12 => 1 | 13 => 1 | 17 => 2 | 19 => 1 | _ => 0
def fnOf : Int → Nat
  | 4 => 101 | 5 => 102 | 6 => 103 | 7 => 104 | 8 => 105 | 9 => 106 | 10 => 107 | 11 => 108 | 12 => 109 | 13 => 110 | 14 => 111 | 15 => 112 | 16 => 113 | 17 => 114
  | 18 => 115 | 19 => 116 | 20 => 117 | 21 => 118 | _ => 0
/-- which block behind w the row lies in -/
def blkOf : Int → Nat
  | 9 => 3 | 10 => 1 | 11 => 4 | 12 => 1 | 13 => 1 | 14 => 5 | 15 => 6 | 16 => 7 | 17 => 8 | 18 => 1 | 19 => 9 | 20 => 1 | 21 => 10 | _ => 0
def opVal (B : Nat) (o : Int) : Value := .agg #[.slice (some ⟨B + blkOf o, 0, none⟩) (takesOf o).length (takesOf o).length, .int .i64 (tellsOf o), .func (.func (fnOf o)) #[] #[]]

theorem isOp_cases {o : Int} (h : isOp o = true) : o = 4 ∨ o = 5 ∨ o = 6 ∨ o = 7 ∨ o = 8 ∨ o = 9 ∨ o = 10 ∨ o = 11 ∨ o = 12 ∨ o = 13 ∨ o = 14 ∨ o = 15 ∨ o = 16 ∨ o = 17 ∨ o = 18 ∨ o = 19 ∨ o = 20 ∨ o = 21 := by
  simp only [isOp, decide_eq_true_eq] at h
  omega
theorem find_op (B : Nat) (o : Int) (h : isOp o = true) : ∃ i, Instr.findNow (.int .i64) (.int .i64 o) (opsEnts B) 0 = some (some (i, opVal B o)) := by
  rcases isOp_cases h with rfl | rfl | rfl | rfl | rfl | rfl | rfl | rfl | rfl | rfl | rfl | rfl | rfl | rfl | rfl | rfl | rfl | rfl <;> exact ⟨_, rfl⟩
theorem find_no (B : Nat) (o : Int) (h : isOp o = false) : Instr.findNow (.int .i64) (.int .i64 o) (opsEnts B) 0 = some none := by
  simp only [isOp, decide_eq_false_iff_not] at h
  have e : ∀ k : Int, 4 ≤ k → k ≤ 21 → (o == k) = false := fun k h1 h2 => by simp; omega
  simp [opsEnts, Instr.findNow, Instr.sameNow, e]
theorem ostate_map (w : World) : (ostate w 11 18).heap[w.heap.size + 2]? = some (.map (opsEnts w.heap.size).toArray 18) := by
  unfold ostate grow
  simp only [Array.getElem?_append_right (Nat.le_add_right _ _), Nat.add_sub_cancel_left]
  rfl
theorem run_lookup_map {P : Program} (W : World) {t k e : TypeId} {d : TypeDesc} (ht : P.underlying t = some (.map k e)) (hk : P.underlying k = some d) (hd : ∀ b v W, (Instr.checkKey b 10000 k v).run P W = .ok () W) {m : Nat} {es : Array MapEntry} {c : Nat} (hb : W.heap[m]? = some (.map es c)) (key v : Value) (i : Nat)
    (hf : Instr.findNow d key es.toList 0 = some (some (i, v))) (ok : Bool) :
    (Instr.lookup t (.map (some m)) key ok).run P W = .ok (if ok then .tuple #[v, .bool true] else v) W := by
  unfold Instr.lookup
  cases ok <;> simp [run_underlying ht, MapKept.run_getObj_map hb, MapKept.run_findKey hk hf, hd, Result.andThen]
theorem run_lookup_none {P : Program} (W : World) {t k e : TypeId} {d : TypeDesc} (ht : P.underlying t = some (.map k e)) (hk : P.underlying k = some d) (hd : ∀ b v W, (Instr.checkKey b 10000 k v).run P W = .ok () W) {m : Nat} {es : Array MapEntry} {c : Nat} (hb : W.heap[m]? = some (.map es c)) (key : Value)
    (hf : Instr.findNow d key es.toList 0 = some none) (z : Value) (hz : ∀ W, (zeroValue e).run P W = .ok z W) (ok : Bool) :
    (Instr.lookup t (.map (some m)) key ok).run P W = .ok (if ok then .tuple #[z, .bool false] else z) W := by
  unfold Instr.lookup
  cases ok <;> simp [run_underlying ht, MapKept.run_getObj_map hb, MapKept.run_findKey hk hf, hd, hz, Result.andThen]
theorem check_int (b : Bool) (v : Value) (W : World) : (Instr.checkKey b 10000 3 v).run Tryz.prog W = .ok () W := by
  unfold Instr.checkKey
  simp [run_underlying Tryz.underlying3]
theorem zero_op (W : World) : (zeroValue 151).run Tryz.prog W = .ok (.agg #[.slice none 0 0, .int .i64 0, .nilFunc]) W := by kernel_rfl
theorem look_op (w W : World) (hb : Below (ostate w 11 18).heap.size (ostate w 11 18) W) (o : Int) (h : isOp o = true) (ok : Bool) :
    (Instr.lookup 152 (.map (some (w.heap.size + 2))) (.int .i64 o) ok).run Tryz.prog W = .ok (if ok then .tuple #[opVal w.heap.size o, .bool true] else opVal w.heap.size o) W := by
  obtain ⟨i, hi⟩ := find_op w.heap.size o h
  exact run_lookup_map W Tryz.underlying152 Tryz.underlying3 check_int ((hb.block _ (by rw [ostate_size w 11 18 (by decide)]; omega)).trans (ostate_map w)) _ _ i hi ok
theorem look_no (w W : World) (hb : Below (ostate w 11 18).heap.size (ostate w 11 18) W) (o : Int) (h : isOp o = false) (ok : Bool) :
    (Instr.lookup 152 (.map (some (w.heap.size + 2))) (.int .i64 o) ok).run Tryz.prog W = .ok (if ok then .tuple #[.agg #[.slice none 0 0, .int .i64 0, .nilFunc], .bool false] else .agg #[.slice none 0 0, .int .i64 0, .nilFunc]) W :=
  run_lookup_none W Tryz.underlying152 Tryz.underlying3 check_int ((hb.block _ (by rw [ostate_size w 11 18 (by decide)]; omega)).trans (ostate_map w)) _ (find_no _ o h) _ zero_op ok
theorem ostate_below (w : World) : Below w.heap.size w (ostate w 11 18) := by
  unfold ostate
  exact ⟨rfl, rfl, rfl, by simp [grow], fun k hk => heap_grow_old w _ hk⟩
theorem ostate_reads (w : World) (o : Int) (h : isOp o = true) : ReadsInt (ostate w 11 18) .i64 (some ⟨w.heap.size + blkOf o, 0, none⟩) (takesOf o).length (takesOf o) := by
  refine ⟨rfl, ?_, fun _ => ⟨_, rfl, fun j hj => ?_⟩⟩
  · rcases isOp_cases h with rfl | rfl | rfl | rfl | rfl | rfl | rfl | rfl | rfl | rfl | rfl | rfl | rfl | rfl | rfl | rfl | rfl | rfl <;> decide
  · rw [add_plain]
    unfold World.cell? ostate grow
    simp only [Array.getElem?_append_right (Nat.le_add_right _ _), Nat.add_sub_cancel_left]
    rcases isOp_cases h with rfl | rfl | rfl | rfl | rfl | rfl | rfl | rfl | rfl | rfl | rfl | rfl | rfl | rfl | rfl | rfl | rfl | rfl <;>
      (rcases j with _ | _ | _ | j <;> first | rfl | (exfalso; simp [takesOf] at hj; done) | (exfalso; simp [takesOf] at hj; omega))
/-- the table, and what is looked up in it -/
theorem ops_look (w : World) (o : Int) (h : isOp o = true) : Calls Tryz.prog 89 #[] w fun e w' => ∃ m, e = .returned (.map (some m)) ∧ Below w.heap.size w w' ∧
    ∀ W, Below w'.heap.size w' W → (Instr.lookup 152 (.map (some m)) (.int .i64 o) false).run Tryz.prog W = .ok (opVal w.heap.size o) W :=
  (ops_any w).mono fun e w' ⟨he, hw⟩ => ⟨_, he, by rw [hw]; exact ostate_below w, fun W hW => by
    subst hw
    have := look_op w W hW o h false
    simpa using this⟩
theorem takes_range (o : Int) (h : isOp o = true) (i : Int) (h0 : 0 ≤ i) (h1 : i < (takesOf o).length) : rd (takesOf o) i = 0 ∨ rd (takesOf o) i = 1 ∨ rd (takesOf o) i = 2 := by
  obtain ⟨j, rfl⟩ := Int.eq_ofNat_of_zero_le h0
  rcases isOp_cases h with rfl | rfl | rfl | rfl | rfl | rfl | rfl | rfl | rfl | rfl | rfl | rfl | rfl | rfl | rfl | rfl | rfl | rfl <;>
    (rcases j with _ | _ | _ | j <;> first | decide | (exfalso; simp [takesOf] at h1; omega))
theorem takes_len (o : Int) (h : isOp o = true) : 1 ≤ (takesOf o).length ∧ (takesOf o).length ≤ 3 := by
  rcases isOp_cases h with rfl | rfl | rfl | rfl | rfl | rfl | rfl | rfl | rfl | rfl | rfl | rfl | rfl | rfl | rfl | rfl | rfl | rfl <;> decide

theorem tells_range (o : Int) (h : isOp o = true) : tellsOf o = 0 ∨ tellsOf o = 1 ∨ tellsOf o = 2 := by
  rcases isOp_cases h with rfl | rfl | rfl | rfl | rfl | rfl | rfl | rfl | rfl | rfl | rfl | rfl | rfl | rfl | rfl | rfl | rfl | rfl <;> decide
/-- does a place not fit its kind? -/
def badAt (o : Int) (args : List Bool) (i : Nat) : Bool :=
  let k := rd (takesOf o) i; let b := args.getD i false; let last := args.getD (args.length - 1) false
  k == 0 && b || k == 1 && !b || k == 2 && b != last
def badFrom (o : Int) (args : List Bool) (i : Nat) : Bool := (List.range' i ((takesOf o).length - i)).any (badAt o args)
theorem badFrom_end (o : Int) (args : List Bool) (i : Nat) (h : (takesOf o).length ≤ i) : badFrom o args i = false := by
  simp [badFrom, Nat.sub_eq_zero_of_le h]
theorem badFrom_step (o : Int) (args : List Bool) (i : Nat) (h : i < (takesOf o).length) : badFrom o args i = (badAt o args i || badFrom o args (i + 1)) := by
  unfold badFrom
  rw [show (takesOf o).length - i = ((takesOf o).length - (i + 1)) + 1 by omega, List.range'_succ]
  simp
/-- what value.Result tells: the kind, and the error's number -/
def resultS (o : Int) (args : List Bool) : Bool × Int :=
  if isOp o = false then (false, 1) else if args.length ≠ (takesOf o).length then (false, 11) else if badFrom o args 0 then (false, 11)
  else (tellsOf o == 1 || tellsOf o == 2 && args.getD (args.length - 1) false, 0)

theorem resultS_bad {o : Int} {args : List Bool} (ho : isOp o = true) (hl : args.length = (takesOf o).length) (hb : badFrom o args 0 = true) : resultS o args = (false, 11) := by
  unfold resultS
  rw [if_neg (by simp [ho]), if_neg (by simp [hl]), if_pos hb]
theorem resultS_good {o : Int} {args : List Bool} (ho : isOp o = true) (hl : args.length = (takesOf o).length) (hb : badFrom o args 0 = false) : resultS o args = (tellsOf o == 1 || tellsOf o == 2 && args.getD (args.length - 1) false, 0) := by
  unfold resultS
  rw [if_neg (by simp [ho]), if_neg (by simp [hl]), if_neg (by simp [hb])]
theorem resultS_long {o : Int} {args : List Bool} (ho : isOp o = true) (hl : args.length ≠ (takesOf o).length) : resultS o args = (false, 11) := by
  unfold resultS
  rw [if_neg (by simp [ho]), if_pos hl]
set_option maxRecDepth 100000 in
set_option maxHeartbeats 2000000 in
theorem value_Result.no (o : Int) (A : Option Addr) (c : Nat) (args : List Bool) (w : World) (ho : isOp o = false) :
    Calls Tryz.prog 88 #[.int .i64 o, .slice A args.length c] w fun e w' => e = .returned (.tuple #[.bool false, .int .i64 1]) ∧ Below w.heap.size w w' := by
  have HO : Hid (isOp o = false) := ho
  clear ho
  go_enter Tryz.func88, Tryz.ntmps88
  go_wp2_with (first
    | (go_at_call 89; refine (ops_any _).mono ?_; rintro e w' ⟨rfl, rfl⟩; have hl := look_no w _ (Below.refl _ _) o HO.out true; simp only [if_true] at hl))
  go_ret2
  exact ⟨rfl, below_alloc (ostate_below w) _⟩
end Go.Proofs.YtjgmkimekipgmaaGreatDoor.G
