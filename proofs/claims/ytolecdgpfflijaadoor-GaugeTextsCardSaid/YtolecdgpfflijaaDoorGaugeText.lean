/- gauge's Text. -/
import Derived.Test.YtolecdgpfflijaaDoorGaugeDigits
namespace Go.Proofs.YtolecdgpfflijaaDoor
open Go.Sort (grow)
open Go.RowKit Go.Proofs.YtolecdgpfflijaaDoorW.PrintWords Go.Proofs.YtolecdgpfflijaaDoorW.PrintLast Go.Proofs.YtolecdgpfflijaaDoorW.PrintMore
set_option linter.unusedVariables false
set_option linter.unusedSimpArgs false
set_option maxRecDepth 1000000
theorem neg_word (b : Nat) (h : b < 18446744073709551616) : Op.negFloat .f64 b < 18446744073709551616 ∧ rg (Op.negFloat .f64 b) = rg b ∧ sg (Op.negFloat .f64 b) = !sg b := by
  have e : Op.negFloat .f64 b = b ^^^ 2 ^ 63 := rfl
  have hm : (b ^^^ 2 ^ 63) % 2 ^ 63 = b % 2 ^ 63 := by
    rw [Nat.xor_mod_two_pow]
    simp
  have hd : (b ^^^ 2 ^ 63) / 2 ^ 63 = (b / 2 ^ 63) ^^^ 1 := by
    rw [Nat.xor_div_two_pow]
  have hq : b / 2 ^ 63 = 0 ∨ b / 2 ^ 63 = 1 := by omega
  have hlt : b ^^^ 2 ^ 63 < 2 ^ 64 := Nat.xor_lt_two_pow (by omega) (by decide)
  rw [e]
  refine ⟨by omega, hm, ?_⟩
  unfold sg
  rw [show (9223372036854775808 : Nat) = 2 ^ 63 from rfl, hd]
  rcases hq with q | q <;> rw [q] <;> rfl
theorem run_neg {P : Program} (b : Nat) (w : World) : (Op.unary .neg (.float .f64 b)).run P w = .ok (.float .f64 (Op.negFloat .f64 b)) w := by
  simp [Op.unary]
theorem nan_rg {a b : Nat} (h : rg a = rg b) : nanB a = nanB b := by unfold nanB; rw [h]
theorem inf_rg {a b : Nat} (h : rg a = rg b) : infB a = infB b := by unfold infB; rw [h]
theorem inf_not_nan {b : Nat} (h : infB b = true) : nanB b = false := by
  have := of_decide_eq_true h
  unfold nanB
  rw [this]
  rfl
set_option maxHeartbeats 2000000 in
theorem isinfm_calls (b : Nat) (w : World) (hb : b < 18446744073709551616) :
    Calls Tryd.prog 36 #[.float .f64 b, .int .i64 (-1)] w fun e w' => e = .returned (.bool (sg b && infB b)) ∧ w = w' := by
  obtain ⟨_, hr, hs⟩ := neg_word b hb
  have t := t_gt (Op.negFloat .f64 b) 9218868437227405311
  have h : (!nanB (Op.negFloat .f64 b) && !nanB 9218868437227405311 && decide (vl 9218868437227405311 < vl (Op.negFloat .f64 b))) = (sg b && infB b) := by
    rw [nan_rg hr]
    cases hn : nanB b
    · have hn' := of_decide_eq_false hn
      rw [show nanB 9218868437227405311 = false from by decide]
      simp only [Bool.not_false, Bool.true_and]
      rw [Bool.eq_iff_iff, decide_eq_true_eq, vl_lt, show sg 9218868437227405311 = false from by decide, show rg 9218868437227405311 = 9218868437227405311 from by decide, hr, hs]
      unfold infB
      cases sg b
      · simp
      · simp; omega
    · have := of_decide_eq_true hn
      unfold infB
      simp
      omega
  rw [h] at t
  have hng := run_neg (P := Tryd.prog) b
  generalize (sg b && infB b) = q at *
  clear h hr hs
  go_enter Tryd.func36, Tryd.ntmps36
  go_wp2
  go_ret
  exact ⟨ret_b (by rfl), rfl⟩
set_option maxHeartbeats 2000000 in
theorem text_nan (b : Nat) (w : World) (h : nanB b = true) :
    Calls Tryd.prog 13 #[.float .f64 b] w fun e w' => e = .returned (.string ⟨#[110, 111, 110, 101]⟩) ∧ w = w' := by
  have t1 := t_ne b
  rw [h] at t1
  clear h
  go_enter Tryd.func13, Tryd.ntmps13
  go_wp2
  go_ret
  exact ⟨rfl, rfl⟩
set_option maxHeartbeats 2000000 in
theorem text_inf (b : Nat) (w : World) (hb : b < 18446744073709551616) (h : infB b = true) :
    Calls Tryd.prog 13 #[.float .f64 b] w fun e w' => e = .returned (.string (if sg b = true then ⟨#[45, 101, 110, 100, 108, 101, 115, 115]⟩ else ⟨#[101, 110, 100, 108, 101, 115, 115]⟩)) ∧ w = w' := by
  have t1 := t_ne b
  have hn := inf_not_nan h
  rw [hn] at t1
  cases hs : sg b
  · go_enter Tryd.func13, Tryd.ntmps13
    go_wp2_with fail
    ((with_reducible refine (isinf1_calls b _).mono ?_); rw [hn, hs, h]; rintro e w1 ⟨rfl, rfl⟩)
    go_wp2
    go_ret
    exact ⟨rfl, rfl⟩
  · go_enter Tryd.func13, Tryd.ntmps13
    go_wp2_with fail
    ((with_reducible refine (isinf1_calls b _).mono ?_); rw [hn, hs, h]; rintro e w1 ⟨rfl, rfl⟩)
    go_wp2_with fail
    ((with_reducible refine (isinfm_calls b _ hb).mono ?_); rw [hs, h]; rintro e w1 ⟨rfl, rfl⟩)
    go_wp2
    go_ret
    exact ⟨rfl, rfl⟩
/-- What digits answer at a word. -/
def Says (b : Nat) (D : ByteArray) : Prop := ∀ w : World, Tens w → Calls Tryd.prog 38 #[.float .f64 b] w fun e w' => e = .returned (.string D) ∧ Below w.heap.size w w'
set_option maxHeartbeats 2000000 in
theorem text_pos (b : Nat) (D : ByteArray) (w : World) (hb : b < 18446744073709551616) (hn : nanB b = false) (hi : infB b = false) (hs : sg b = false) (hD : Says b D) (ht : Tens w) :
    Calls Tryd.prog 13 #[.float .f64 b] w fun e w' => e = .returned (.string D) ∧ Below w.heap.size w w' := by
  have t1 := t_ne b
  rw [hn] at t1
  have HD := Aside0.mk hD
  have HT := Aside0.mk ht
  clear hD ht
  go_enter Tryd.func13, Tryd.ntmps13
  go_wp2_with fail
  ((with_reducible refine (isinf1_calls b _).mono ?_); rw [hn, hs, hi]; rintro e w1 ⟨rfl, rfl⟩)
  go_wp2_with fail
  ((with_reducible refine (isinfm_calls b _ hb).mono ?_); rw [hs, hi]; rintro e w1 ⟨rfl, rfl⟩)
  go_wp2_with fail
  ((with_reducible refine (signbit_calls b _ hb).mono ?_); rw [hs]; rintro e w1 ⟨rfl, rfl⟩)
  go_wp2_with fail
  ((refine (HD.out _ HT.out).mono ?_); rintro e w1 ⟨rfl, hb1⟩)
  go_wp2
  go_ret
  exact ⟨rfl, hb1⟩
set_option maxHeartbeats 2000000 in
theorem text_neg (b : Nat) (D : ByteArray) (w : World) (hb : b < 18446744073709551616) (hn : nanB b = false) (hi : infB b = false) (hs : sg b = true) (hD : Says (Op.negFloat .f64 b) D) (hsz : D.size ≤ 1000) (ht : Tens w) :
    Calls Tryd.prog 13 #[.float .f64 b] w fun e w' => e = .returned (.string ((⟨#[45]⟩ : ByteArray) ++ D)) ∧ Below w.heap.size w w' := by
  have t1 := t_ne b
  rw [hn] at t1
  have HD := Aside0.mk hD
  have HT := Aside0.mk ht
  clear hD ht
  have hng := run_neg (P := Tryd.prog) b
  go_enter Tryd.func13, Tryd.ntmps13
  go_wp2_with fail
  ((with_reducible refine (isinf1_calls b _).mono ?_); rw [hn, hs, hi]; rintro e w1 ⟨rfl, rfl⟩)
  go_wp2_with fail
  ((with_reducible refine (isinfm_calls b _ hb).mono ?_); rw [hs, hi]; rintro e w1 ⟨rfl, rfl⟩)
  go_wp2_with fail
  ((with_reducible refine (signbit_calls b _ hb).mono ?_); rw [hs]; rintro e w1 ⟨rfl, rfl⟩)
  go_wp2_with fail
  ((refine (HD.out _ HT.out).mono ?_); rintro e w1 ⟨rfl, hb1⟩)
  go_wp2
  go_ret
  exact ⟨rfl, hb1⟩
end Go.Proofs.YtolecdgpfflijaaDoor
