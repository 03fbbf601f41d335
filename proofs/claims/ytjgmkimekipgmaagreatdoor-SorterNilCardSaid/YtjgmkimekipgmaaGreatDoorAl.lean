/- The live question of layer 19; the law SorterNil. -/
import Derived.Test.YtjgmkimekipgmaaGreatDoorGr
namespace Go.Proofs.YtjgmkimekipgmaaGreatDoor.G
open Go.RowKit Go.Sort Go.Proofs.YtjgmkimekipgmaaGreatDoorW.PrintWords Go.Proofs.YtjgmkimekipgmaaGreatDoorW.PrintLast Go.Proofs.YtjgmkimekipgmaaGreatDoorW.PrintMore
set_option linter.unusedVariables false
set_option linter.unusedSimpArgs false

def jz : JC := ⟨false, (none, 0, 0), (none, 0, 0), (none, 0, 0), 0, (none, 0, 0), false, 0, ⟨#[]⟩, false, 0, false, false, 0⟩
def l3 : List S44 := [⟨⟨#[98]⟩, ⟨false, 1, ⟨#[]⟩⟩⟩, ⟨⟨#[97]⟩, ⟨false, 0, ⟨#[]⟩⟩⟩, ⟨⟨#[98]⟩, ⟨false, 2, ⟨#[]⟩⟩⟩]
def s3 : List S44 := [⟨⟨#[97]⟩, ⟨false, 0, ⟨#[]⟩⟩⟩, ⟨⟨#[98]⟩, ⟨false, 1, ⟨#[]⟩⟩⟩, ⟨⟨#[98]⟩, ⟨false, 2, ⟨#[]⟩⟩⟩]
theorem ins3 : insN (orderC false false) l3 0 2 = s3 := by kernel_rfl
theorem cnt3 : gcnt s3 3 = 2 := by kernel_rfl
theorem keys3 : keysB l3 = true := by kernel_rfl

set_option maxRecDepth 100000 in
set_option maxHeartbeats 1000000 in
theorem alive_any (w : World) : Calls Tryz.prog 27 #[] w fun e w' => e = .returned (.bool true) ∧ Below w.heap.size w w' := by
  have HS := Aside0.mk (show ∀ W b, W.heap[b]? = some (.cells (icells l3) 44 (0, 0)) → Calls Tryz.prog 28 #[.agg jz.arr, .slice (some ⟨b, 0, none⟩) 3 3] W fun e w' => ∃ v0_ : Value, e = .returned (v0_) ∧ Kd.R k44 44 w' W.heap.size (fun _ => True) v0_ s3 ∧ Below W.heap.size W w' from fun W b hb => by
    obtain ⟨A, c, he, hl, hC⟩ := Kd.R_reads (items_R (base := 0) hb (Nat.zero_le _) (by decide))
    injection he with h1 h2 h3
    subst h1
    have := sorter_Sort.any jz (some ⟨b, 0, none⟩) 3 l3 W hC (by decide) keys3 (by decide)
    rw [show l3.length - 0 - 1 = 2 from rfl, show jz.down = false from rfl, show jz.num = false from rfl, ins3] at this
    exact this)
  have HG := Aside0.mk (show ∀ W A c, Kd.C k44 W A s3.length s3 → s3.length ≤ c → Calls Tryz.prog 32 #[.agg jz.arr, .slice A s3.length c] W fun e w' => ∃ A' c', e = .returned (.slice A' 2 c') ∧ Below W.heap.size W w' from fun W A c h hc => by
    have := groups_len jz A c s3 W h hc (by decide)
    rw [show s3.length = 3 from rfl, cnt3] at this
    exact this)
  go_enter Tryz.func27, Tryz.ntmps27
  go_wp2_with (first
    | (go_at_call 28; refine (HS.out _ _ (blk_new _ _)).mono ?_; rintro e w1 ⟨v, rfl, hR, hb⟩
       have HR := Aside0.mk hR
       have HB1 := Aside0.mk (below_step (below_alloc (Below.refl w.heap.size w) _) hb)
       clear hR hb
       obtain ⟨A, c, rfl, hlc, hC⟩ := Kd.R_reads HR.out
       obtain ⟨ad, e0, x0, k1, k2, k3⟩ := at_T44 hC 0 (by decide) (by decide)
       obtain ⟨ad', e1, k4, k5, x1, k6⟩ := at_T44 hC 1 (by decide) (by decide)
       subst e0
       injection e1 with e1
       subst e1
       have HC := Aside0.mk hC
       have HX0 := Aside0.mk (show w1.cell? ad = some (.string ⟨#[97]⟩) from x0)
       have HX1 := Aside0.mk (show w1.cell? ⟨ad.block, ad.off + 4 + 1 + 1, none⟩ = some (.int .i64 1) from x1)
       clear hC x0 x1 k1 k2 k3 k4 k5 k6)
    | (go_at_call 44; have _z := HB2.out; clear _z; refine (sorter_New.bad jz 0 (by decide) _).mono ?_; rintro e w3 ⟨rfl, hb⟩
       have HB3 := Aside0.mk (below_step HB2.out hb)
       have HC3 := Aside0.mk (Kd.C_below HC2.out hb)
       have hd := HD2.out.trans (hb.mono HD2.out.size)
       have y0 := (hd.cell (World.block_lt_of_cell? w1 _ HX0.out)).trans HX0.out
       have y1 := (hd.cell (World.block_lt_of_cell? w1 _ HX1.out)).trans HX1.out
       clear hb hd)
    | (go_at_call 32; refine (HG.out _ _ _ HC3.out hlc).mono ?_; rintro e w4 ⟨A4, c4, rfl, hb⟩
       have HB4 := Aside0.mk (below_step HB3.out hb)
       clear hb)
    | (go_at_call 44; refine (sorter_New.ok jz 1 (by decide) _).mono ?_; rintro e w2 ⟨b, rfl, hb0, hbb, hb⟩
       have HB2 := Aside0.mk (below_step HB1.out hb)
       have HC2 := Aside0.mk (Kd.C_below HC.out hb)
       have HD2 := Aside0.mk hb
       clear hb hb0 hbb))
  go_ret
  exact ⟨rfl, HB4.out⟩
set_option maxRecDepth 100000 in
set_option maxHeartbeats 1000000 in
theorem sorterNil_walk (x : S44) (w : World) : Calls Tryz.prog 8 #[.agg #[.string x.f0, .bool x.f1.f0, .int .i64 x.f1.f1, .string x.f1.f2]] w fun e w' => e = .returned (.bool true) ∧ Below w.heap.size w w' := by
  go_enter Tryz.func8, Tryz.ntmps8
  go_wp2_with (first
    | (go_at_call 27; refine (alive_any _).mono ?_; rintro e w1 ⟨rfl, hb⟩
       have HB1 := Aside0.mk (below_step (below_alloc (Below.refl w.heap.size w) _) hb)
       have hrow := blk_below (blk_new w (.cells #[.string x.f0, .bool x.f1.f0, .int .i64 x.f1.f1, .string x.f1.f2] 44)) hb
       have c0 : w1.cell? ⟨w.heap.size, 0, none⟩ = some (.string x.f0) := blk_cell hrow 0
       have c1 : w1.cell? ⟨w.heap.size, 1, none⟩ = some (.bool x.f1.f0) := blk_cell hrow 1
       have c2 : w1.cell? ⟨w.heap.size, 2, none⟩ = some (.int .i64 x.f1.f1) := blk_cell hrow 2
       have c3 : w1.cell? ⟨w.heap.size, 3, none⟩ = some (.string x.f1.f2) := blk_cell hrow 3
       clear hb hrow)
    | (go_at_call 39; refine (buffer_Add.nil x _).mono ?_; rintro e w2 ⟨rfl, hb⟩; have HB2 := Aside0.mk (below_step HB1.out hb); clear hb c0 c1 c2 c3)
    | (go_at_call 40; refine (buffer_Flush.nil _).mono ?_; rintro e w3 ⟨rfl, hb⟩; have HB3 := Aside0.mk (below_step HB2.out hb); clear hb)
    | (go_at_call 41; refine (buffer_Held.nil _).mono ?_; rintro e w4 ⟨rfl, hb⟩; have HB4 := Aside0.mk (below_step HB3.out hb); clear hb))
  go_ret
  exact ⟨rfl, HB4.out⟩
end Go.Proofs.YtjgmkimekipgmaaGreatDoor.G
