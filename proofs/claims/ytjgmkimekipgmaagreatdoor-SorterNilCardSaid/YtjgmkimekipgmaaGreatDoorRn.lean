/- The row and the card of SorterNil. -/
import Derived.Test.YtjgmkimekipgmaaGreatDoorBn
import Derived.Test.YtjgmkimekipgmaaGreatDoorTie
import Derived.Test.YtjgmkimekipgmaaGreatDoorCards
import Derived.ProofKit
import Derived.OpenShut
import Derived.ShutString
import Derived.ChangeOld
import Derived.SizedLaws
import Derived.LaidMore
import Derived.Lay
import Derived.SevenTiedAt
import Derived.Stop.Joined
import Derived.Lib.SmallJoins
import Derived.Deep.Strs
namespace Go.Proofs.YtjgmkimekipgmaaGreatDoor
open Go.ChangeShapes Go.WideShapes Go.ChangeAt Go.RowKit
set_option linter.unusedVariables false
namespace SorterNil

theorem own : ownKnob Tryz.prog.godebug = none := by kernel_rfl
theorem laidOut : laidOutB Tryz.prog = true := by kernel_rfl
set_option maxRecDepth 100000
/-- an item that comes in -/
theorem open_item {H : Type} {enc : TypeId × Value → H} {W : World} {r : Reach} {b0 base : Nat} {spare : Nat → Bool} {held : Bool} {v : Value} {d : DataW H} {p : List MemPlace} (hv : Value.okWide Tryz.prog W r b0 44 v) (h : DataW.Trod enc Tryz.prog W base spare held 44 v d p) :
    ∃ x : G.S44, v = .agg #[.string x.f0, .bool x.f1.f0, .int .i64 x.f1.f1, .string x.f1.f2] := by
  have C44 : Tryz.prog.cellsOf 44 = 4 := by kernel_rfl
  have C24 : Tryz.prog.cellsOf 24 = 3 := by kernel_rfl
  have C9 : Tryz.prog.cellsOf 9 = 1 := by kernel_rfl
  have C4 : Tryz.prog.cellsOf 4 = 1 := by kernel_rfl
  have C3 : Tryz.prog.cellsOf 3 = 1 := by kernel_rfl
  obtain ⟨cs, rfl, hsz⟩ := okWide_struct Tryz.underlying44 hv
  rw [C44] at hsz
  obtain ⟨c0, c1, c2, c3, rfl⟩ := Go.Joins.array4 hsz
  obtain ⟨fuel, hf⟩ := h
  obtain ⟨y0, y1, n, hx, _, h0, h1⟩ := trod_struct2 Tryz.underlying44 hf
  simp only [C9, C24, Value.cells] at h0 h1
  obtain ⟨z0, z1, z2, m, hz, _, g0, g1, g2⟩ := Go.Deep.trod_struct3 Tryz.underlying24 h1
  simp only [C9, C4, C3] at g0 g1 g2
  obtain ⟨a0, e0, _⟩ := DataW.trod_string Tryz.underlying9 h0
  obtain ⟨a1, e1, _⟩ := DataW.trod_bool Tryz.underlying4 g0
  obtain ⟨a2, e2, _⟩ := DataW.trod_int Tryz.underlying3 g1
  obtain ⟨a3, e3, _⟩ := DataW.trod_string Tryz.underlying9 g2
  simp at e0 e1 e2 e3
  subst e0 e1 e2 e3
  exact ⟨⟨a0, ⟨a1, a2, a3⟩⟩, rfl⟩

theorem lifted (walk : ∀ (x : G.S44) (w : World), Calls Tryz.prog 8 #[.agg #[.string x.f0, .bool x.f1.f0, .int .i64 x.f1.f1, .string x.f1.f2]] w fun e w' => e = .returned (.bool true) ∧ Below w.heap.size w w')
    (os : Os) (started : os.Started) (H : Type) (enc : TypeId × Value → H) :
    ReturnsInHanded {} Tryz.checked os 8 .any (fun w args => (Rows.sorterNilSpec.pre enc Tryz.prog Tryz.f8 Rows.sorterNilRow.domain false w args ∧ laidMetH Tryz.prog Rows.sorterNilRow.laid w) ∧ sizedMet enc Tryz.prog Tryz.f8 (OpenSpec.ofChange Rows.sorterNilSpec) false w args)
      (Rows.sorterNilSpec.post enc Tryz.prog Tryz.f8 false true false false) := by
  refine returnsInHanded_of_change_and (C := Tryz.checked) (X := fun w _ => laidMetH Tryz.prog Rows.sorterNilRow.laid w) (fun _ _ _ hh h => h.of_heap hh) own started (by kernel_rfl) Tryz.func8
    (ChangeSpec.witness_shaped (enc := enc) (C := Tryz.checked) (os := os) (X := fun w _ => laidMetH Tryz.prog Rows.sorterNilRow.laid w) false (World.laidAll Tryz.prog os Rows.sorterNilRow.laid) #[.agg #[.string ByteArray.empty, .bool false, .int .i64 0, .string ByteArray.empty]] 8 (World.laidAll_os _ _ _)
      (World.shaped_of_ZipB (by kernel_rfl) (by kernel_rfl)) (by kernel_rfl) (by kernel_rfl) (by kernel_rfl)
      (by rw [MakeChecks.laidMetH_plain _ _ _ (by kernel_rfl)]; exact laidMet_laidAll _ (by kernel_rfl) (by kernel_rfl))) ?_
  intro W base args ds gs before hval0 hW hc _ hL _
  have hval : ∀ (j : Nat) t v, Tryz.f8.params[j]? = some t → args[j]? = some v → Value.okWide Tryz.prog W .any base t v := hval0
  have hW' := hW
  obtain ⟨p, q, hA0, hV, rfl, _, _⟩ := hW
  have hA : DataW.TrodAll enc Tryz.prog W 0 (fun _ => true) true Tryz.f8.params.toList args.toList ds p := hA0
  rw [Tryz.params8] at hA hval
  obtain ⟨v0, d0, hargs, rfl, h0⟩ := trodAll_one hA
  obtain rfl : args = #[v0] := by cases args; simp_all
  obtain ⟨rfl, rfl⟩ := trodVars_none hV
  obtain ⟨x, rfl⟩ := open_item (hval 0 44 v0 rfl rfl) h0
  have lt0 : ∀ y ∈ p, y.block < W.heap.size := by obtain ⟨m, hm⟩ := h0; exact DataW.trod_lt m _ _ _ hm
  clear hA0 hval0 hL hval
  refine (walk x W).mono fun e W' ⟨he, bel⟩ => ?_
  subst he
  exact ⟨_, rfl, _, _, _, [], _, [], hW', trodAll_mk1 (shut_bool Tryz.underlying4 _), trodAll_mk1 (Below.trod laidOut (by kernel_rfl) (of_decide_eq_true (by kernel_rfl)) h0 bel lt0), rfl, bel.frame _, fun h => by cases h⟩
theorem holds (walk : ∀ (x : G.S44) (w : World), Calls Tryz.prog 8 #[.agg #[.string x.f0, .bool x.f1.f0, .int .i64 x.f1.f1, .string x.f1.f2]] w fun e w' => e = .returned (.bool true) ∧ Below w.heap.size w w') : Rows.SorterNilSaid :=
  OpenClaim.holds_of_wide 8 Tryz.f8 rfl rfl rfl rfl rfl rfl rfl ⟨rfl, rfl, rfl, rfl, rfl⟩ rfl rfl rfl rfl rfl (by kernel_rfl) Tryz.func8 (by kernel_rfl)
    (of_decide_eq_true (by kernel_rfl)) (by unfold Func.isWrapper; first | (rw [if_pos (by decide +kernel)]; kernel_rfl) | (rw [if_neg (by decide +kernel)]; exact ⟨rfl, rfl⟩))
    (fun os started H enc _ => lifted walk os started H enc)
theorem card (h : Rows.SorterNilSaid) : Rows.SorterNilCardSaid :=
  Claim7.holds_tied_plain_at .later [] _ _ _ _ h (fun _ h => by cases h) (by kernel_rfl) (fun _ h => by cases h) sorterNil_row_tie rfl ⟨rfl, rfl⟩ (by kernel_rfl) rfl
    (fun f fn hf hfn => by
      obtain rfl : f = 8 := Option.some.inj ((show Tryz.prog.funcNamed "threshing/threshinglaw19.SorterNil" = some 8 by kernel_rfl).symm.trans hf) |>.symm
      obtain rfl : fn = Tryz.f8 := (Option.some.inj (Tryz.func8.symm.trans hfn)).symm
      exact ⟨by kernel_rfl, fun j t ht => by
        rw [Tryz.params8] at ht
        have hm : t ∈ [44] := by simpa using Array.mem_of_getElem? ht
        have hall : ([44].all fun u => !Tryz.prog.wantsStandIn u) = true := by kernel_rfl
        exact (show Tryz.prog.wantsStandIn t = false by simpa using List.all_eq_true.1 hall t hm)⟩)
    (by kernel_rfl)
end SorterNil
end Go.Proofs.YtjgmkimekipgmaaGreatDoor
