/- law01's GaugeTells. -/
import Derived.Test.YtolecdgpfflijaaDoorRefText
import Derived.Test.YtolecdgpfflijaaDoorGaugeWakes
namespace Go.Proofs.YtolecdgpfflijaaDoor
open Go.RowKit Go.Proofs.YtolecdgpfflijaaDoorW.PrintWords Go.Proofs.YtolecdgpfflijaaDoorW.PrintLast Go.Proofs.YtolecdgpfflijaaDoorW.PrintMore
set_option linter.unusedVariables false
set_option linter.unusedSimpArgs false
set_option maxRecDepth 1000000
theorem text_at {x : Nat} {D : ByteArray} (h : TextIs x D) (w : World) (ht : Tens w) : Calls Tryd.prog 13 #[.float .f64 x] w fun e w' => e = .returned (.string D) ∧ Below w.heap.size w w' := h w ht
theorem tells_at {x : Nat} {D : ByteArray} (h : Tells x D) (w : World) : Calls Tryd.prog 21 #[.float .f64 x] w fun e w' => e = .returned (.string D) ∧ Below w.heap.size w w' := h w
theorem comes_both {o : Option Nat} {a b : Nat} (h1 : Comes o a) (h2 : Comes o b) : (nanB a = true ∧ nanB b = true) ∨ a = b := by
  cases o with
  | none => exact .inl ⟨h1, h2⟩
  | some q => exact .inr ((show a = q from h1).trans (show b = q from h2).symm)
set_option maxHeartbeats 8000000 in
theorem gaugeTells_calls (a b how c d other : Int) (x y : Nat) (w : World) (hx : x < 18446744073709551616) (hy : y < 18446744073709551616) (ht : Tens w) :
    Calls Tryd.prog 4 #[.int .i64 a, .int .i64 b, .int .i64 how, .int .i64 c, .int .i64 d, .int .i64 other, .float .f64 x, .float .f64 y] w fun e w' => e = .returned (.bool true) ∧ Below w.heap.size w w' := by
  have HT := Aside0.mk ht
  have HX := Aside0.mk hx
  have HY := Aside0.mk hy
  clear ht hx hy
  go_enter Tryd.func4, Tryd.ntmps4
  go_wp2_with fail
  ((with_reducible refine (x_calls a b how x _ HX.out).mono ?_); rintro e w1 ⟨p, rfl, hp, hd⟩)
  have HP := Aside0.mk hp
  have HB1 := Aside0.mk hd.below
  clear hp hd
  go_wp2_with fail
  ((with_reducible refine (x_calls c d other y _ HY.out).mono ?_); rintro e w2 ⟨q, rfl, hq, hd⟩)
  have HQ := Aside0.mk hq
  have HB2 := Aside0.mk (below_step HB1.out hd.below)
  clear hq hd HB1
  go_upto_if 31 with (fail)
  go_cut [0, 1] (fun s t wx => ∃ a' b' : Int, s = .int .i64 a' ∧ t = .int .i64 b' ∧ Aside0 (wx = w2))
  case first =>
    by_cases h3 : how.tmod 3 = 0
    · obtain ⟨u0, u1⟩ := wi_bd a 41 (by omega)
      obtain ⟨v0, v1⟩ := wi_bd b 41 (by omega)
      go_wp2_with fail
      ((with_reducible refine (within_calls a 41 _ (by omega)).mono ?_); rintro e w3 ⟨rfl, rfl⟩)
      go_wp2_with fail
      ((with_reducible refine (within_calls b 41 _ (by omega)).mono ?_); rintro e w3 ⟨rfl, rfl⟩)
      go_wp2
      go_meet
      exact ⟨_, _, rfl, rfl, ⟨rfl⟩⟩
    · go_wp2
      go_meet
      exact ⟨_, _, rfl, rfl, ⟨rfl⟩⟩
  rotate_left
  obtain ⟨a', b', rfl, rfl, hwx⟩ := hcut
  obtain ⟨rfl⟩ := hwx
  have HPure := Aside0.mk (same_pure (key p) (key q))
  have C1 := Aside0.mk (fun W => less_calls p q W HP.out HQ.out)
  have C2 := Aside0.mk (fun W => rless_calls p q W HP.out HQ.out)
  have C3 := Aside0.mk (fun W => rless_calls q p W HQ.out HP.out)
  have C4 := Aside0.mk (fun W => same_calls p q W HP.out HQ.out)
  rw [← HPure.out] at C4
  obtain ⟨D, hTx, hGx⟩ := same_text p HP.out
  have HTX := Aside0.mk hTx
  have HGX := Aside0.mk hGx
  clear hTx hGx HPure
  generalize decide (key p < key q) = t1 at *
  generalize decide (key q < key p) = t2 at *
  go_wp2_with fail
  ((with_reducible refine (share_calls a' b' _).mono ?_); rintro e w3 ⟨r1, rfl, hr1, hc1, hd⟩)
  have HB3 := Aside0.mk (below_step HB2.out hd.below)
  have HR1 := Aside0.mk hr1
  have HC1 := Aside0.mk hc1
  clear hd hr1 hc1
  go_wp2_with fail
  ((with_reducible refine (rshare_calls a' b' _).mono ?_); rintro e w4 ⟨r2, rfl, hr2, hc2, hd⟩)
  have HB4 := Aside0.mk (below_step HB3.out hd.below)
  have HAL := Aside0.mk (fun W => alike_calls r1 r2 W HR1.out (comes_both HC1.out hc2))
  clear hd hr2 hc2
  go_wp2_with fail
  ((with_reducible refine (HAL.out _).mono ?_); rintro e w5 ⟨rfl, rfl⟩)
  go_wp2_with fail
  ((with_reducible refine (C1.out _).mono ?_); rintro e w5 ⟨rfl, rfl⟩)
  go_wp2_with fail
  ((with_reducible refine (C2.out _).mono ?_); rintro e w5 ⟨rfl, rfl⟩)
  cases t1
  · cases t2
    all_goals
      go_wp2_with fail
      ((with_reducible refine (C4.out _).mono ?_); rintro e w5 ⟨rfl, rfl⟩)
      go_wp2_with fail
      ((with_reducible refine (C2.out _).mono ?_); rintro e w5 ⟨rfl, rfl⟩)
      go_wp2_with fail
      ((with_reducible refine (C3.out _).mono ?_); rintro e w5 ⟨rfl, rfl⟩)
      go_wp2_with fail
      ((with_reducible refine (text_at HTX.out _ (HT.out.below HB4.out)).mono ?_); rintro e w6 ⟨rfl, hb6⟩)
      have HB6 := Aside0.mk (below_step HB4.out hb6)
      clear hb6
      go_wp2_with fail
      ((with_reducible refine (tells_at HGX.out _).mono ?_); rintro e w7 ⟨rfl, hb7⟩)
      have HB7 := Aside0.mk (below_step HB6.out hb7)
      clear hb7
      go_wp2_with fail
      ((with_reducible refine (wakes01_calls _ (HT.out.below HB7.out)).mono ?_); rintro e w8 ⟨rfl, hb8⟩)
      go_wp2
      go_ret
      exact ⟨rfl, below_step HB7.out hb8⟩
  · go_wp2_with fail
    ((with_reducible refine (C4.out _).mono ?_); rintro e w5 ⟨rfl, rfl⟩)
    go_wp2_with fail
    ((with_reducible refine (C2.out _).mono ?_); rintro e w5 ⟨rfl, rfl⟩)
    go_wp2_with fail
    ((with_reducible refine (text_at HTX.out _ (HT.out.below HB4.out)).mono ?_); rintro e w6 ⟨rfl, hb6⟩)
    have HB6 := Aside0.mk (below_step HB4.out hb6)
    clear hb6
    go_wp2_with fail
    ((with_reducible refine (tells_at HGX.out _).mono ?_); rintro e w7 ⟨rfl, hb7⟩)
    have HB7 := Aside0.mk (below_step HB6.out hb7)
    clear hb7
    go_wp2_with fail
    ((with_reducible refine (wakes01_calls _ (HT.out.below HB7.out)).mono ?_); rintro e w8 ⟨rfl, hb8⟩)
    go_wp2
    go_ret
    exact ⟨rfl, below_step HB7.out hb8⟩
theorem gaugeTells_law (a b how c d other : Int) (x y : Nat) (w : World) (hL : laidMetH Tryd.prog Rows.gaugeTellsRow.laid w)
    (h1 : (Lit.int .i64 a).wf = true) (h2 : (Lit.int .i64 b).wf = true) (h3 : (Lit.int .i64 how).wf = true) (h4 : (Lit.int .i64 c).wf = true) (h5 : (Lit.int .i64 d).wf = true) (h6 : (Lit.int .i64 other).wf = true)
    (hx : (Lit.float .f64 x).wf = true) (hy : (Lit.float .f64 y).wf = true) :
    Calls Tryd.prog 4 #[.int .i64 a, .int .i64 b, .int .i64 how, .int .i64 c, .int .i64 d, .int .i64 other, .float .f64 x, .float .f64 y] w fun e w' => e = .returned (.bool true) ∧ Below w.heap.size w w' :=
  gaugeTells_calls a b how c d other x y w (of_decide_eq_true hx) (of_decide_eq_true hy) (tens_of_laid hL)
end Go.Proofs.YtolecdgpfflijaaDoor
