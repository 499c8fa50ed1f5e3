/- law01's wakes: the document's example. -/
import Derived.Test.YtolecdgpfflijaaDoorGaugeX
import Derived.Test.YtolecdgpfflijaaDoorRows
import Derived.MakeChecks
import Derived.Stop.LaidErr
namespace Go.Proofs.YtolecdgpfflijaaDoor
open Go.RowKit Go.Proofs.YtolecdgpfflijaaDoorW.PrintWords Go.Proofs.YtolecdgpfflijaaDoorW.PrintLast Go.Proofs.YtolecdgpfflijaaDoorW.PrintMore
set_option linter.unusedVariables false
set_option linter.unusedSimpArgs false
set_option maxRecDepth 1000000
theorem pow_global : Tryd.prog.globalNamed "internal/strconv.uint64pow10" = some ((Tryd.prog.globalNamed "internal/strconv.uint64pow10").getD 0) := by kernel_rfl
/-- The laid tables hold the powers of ten. -/
theorem tens_of_laid {w : World} (h : laidMetH Tryd.prog Rows.gaugeOrderRow.laid w) : Tens w := by
  rw [MakeChecks.laidMetH_plain _ _ _ (by kernel_rfl)] at h
  have h1 := h.tail.tail
  have h2 : laidMet Tryd.prog [("internal/strconv.uint64pow10", Lib.tabData .u64 Lib.pow10Tab)] w := h1
  exact Lib.tabIs_of_head (g := (Tryd.prog.globalNamed "internal/strconv.uint64pow10").getD 0) (t := ((Tryd.prog.globals[(Tryd.prog.globalNamed "internal/strconv.uint64pow10").getD 0]?).map (·.type)).getD 0) (e := 75) (n := 20) pow_global (by kernel_rfl) (by kernel_rfl) (by kernel_rfl) (by kernel_rfl) (by kernel_rfl) h2
theorem share13 : shareO 1 3 = some 4599676419421066581 := by decide +kernel
theorem prod33 : floatBits .mul .f64 4599676419421066581 4636737291354636288 = some 4629888066921343658 := by decide +kernel
theorem says33 : Says 4599676419421066581 ⟨#[48, 46, 51, 51]⟩ := fun w ht => by
  have h := digits_num 4599676419421066581 4629888066921343658 4629841154425225216 33 w (by decide +kernel) prod33 (by decide +kernel) (by decide +kernel) (by decide +kernel) (by omega) (by omega) ht
  have e : cents 33 = ⟨#[48, 46, 51, 51]⟩ := by decide +kernel
  rw [e] at h
  exact h
theorem share00 : shareO 0 0 = none := by decide +kernel
set_option maxHeartbeats 2000000 in
theorem wakes01_calls (w : World) (ht : Tens w) :
    Calls Tryd.prog 14 #[] w fun e w' => e = .returned (.bool true) ∧ Below w.heap.size w w' := by
  have HT := Aside0.mk ht
  clear ht
  go_enter Tryd.func14, Tryd.ntmps14
  go_wp2_with fail
  ((with_reducible refine (share_calls 1 3 _).mono ?_); rintro e w1 ⟨r, rfl, hr, hc, hd⟩)
  rw [share13] at hc
  obtain rfl : r = 4599676419421066581 := hc
  have hb1 := hd.below
  clear hr hd
  go_wp2_with fail
  ((with_reducible refine (text_pos 4599676419421066581 _ _ (by decide) (by decide) (by decide) (by decide) says33 (HT.out.below hb1)).mono ?_); rintro e w2 ⟨rfl, hb2⟩)
  go_wp2_with fail
  ((with_reducible refine (share_calls 0 0 _).mono ?_); rintro e w3 ⟨r, rfl, hr, hc, hd⟩)
  rw [share00] at hc
  have hn : nanB r = true := hc
  have hb3 := hd.below
  clear hr hc hd
  go_wp2_with fail
  ((with_reducible refine (text_nan r _ hn).mono ?_); rintro e w4 ⟨rfl, rfl⟩)
  go_wp2
  go_ret
  exact ⟨rfl, below_step (below_step hb1 hb2) hb3⟩
end Go.Proofs.YtolecdgpfflijaaDoor
