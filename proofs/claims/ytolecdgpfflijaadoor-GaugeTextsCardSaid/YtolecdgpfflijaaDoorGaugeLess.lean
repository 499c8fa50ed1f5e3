/- gauge's Less, Same, Share, Best; math's Signbit, NaN, IsInf: what they tell. -/
import Derived.Test.YtolecdgpfflijaaDoorFloatRun
namespace Go.Proofs.YtolecdgpfflijaaDoor
open Go.RowKit Go.Proofs.YtolecdgpfflijaaDoorW.PrintWords Go.Proofs.YtolecdgpfflijaaDoorW.PrintLast Go.Proofs.YtolecdgpfflijaaDoorW.PrintMore
set_option linter.unusedVariables false
set_option linter.unusedSimpArgs false
set_option maxRecDepth 1000000
theorem ret_b {a b : Bool} (h : a = b) : Ending.returned (.bool a) = .returned (.bool b) := by rw [h]
theorem run_f64bits {P : Program} (b : Nat) (w : World) : (Extern.MathFloatBits.float64bits #[.float .f64 b]).run P w = .ok (.int .u64 b) w := rfl
theorem run_f64from {P : Program} (n : Int) (w : World) : (Extern.MathFloatBits.float64frombits #[.int .u64 n]).run P w = .ok (.float .f64 n.toNat) w := rfl
theorem sg_lt (b : Nat) (h : b < 18446744073709551616) : sg b = decide (9223372036854775808 ≤ b) := by
  unfold sg
  rw [Bool.eq_iff_iff, beq_iff_eq, decide_eq_true_eq]
  omega
set_option maxHeartbeats 1000000 in
theorem signbit_calls (b : Nat) (w : World) (h : b < 18446744073709551616) :
    Calls Tryd.prog 37 #[.float .f64 b] w fun e w' => e = .returned (.bool (sg b)) ∧ w = w' := by
  have HS := Aside0.mk (sg_lt b h)
  go_enter Tryd.func37, Tryd.ntmps37
  go_wp2
  rw [run_callFunc_extern Tryd.func55 (by kernel_rfl) (by kernel_rfl) (by kernel_rfl) (e := Extern.MathFloatBits.float64bits) (by kernel_rfl), run_f64bits]
  simp only [Result.andThen]
  rw [Oper.upon_value]
  go_wp2
  go_ret
  refine ⟨ret_b ?_, rfl⟩
  rw [HS.out, decide_eq_decide]
  unfold wrap64
  omega
theorem t_ne (a : Nat) : (FloatKind.f64.format.order a a != some Ordering.eq) = nanB a := by
  have h := fEq_self a
  unfold fEq at h
  show (Ieee.double.order a a != some Ordering.eq) = nanB a
  rw [bne, h, Bool.not_not]
theorem t_eq (a : Nat) : (FloatKind.f64.format.order a a == some Ordering.eq) = !nanB a := fEq_self a
theorem nanB_0 : nanB 0 = false := by decide
theorem t_lt (a b : Nat) : (FloatKind.f64.format.order a b == some Ordering.lt) = (!nanB a && !nanB b && decide (vl a < vl b)) := by
  show (Ieee.double.order a b == some Ordering.lt) = _
  cases ha : nanB a
  · cases hb : nanB b
    · rw [order_of ha hb]
      rcases Int.lt_trichotomy (vl a) (vl b) with h | h | h
      · rw [Int.compare_eq_lt.2 h]; simp [h]
      · rw [Int.compare_eq_eq.2 h]; simp [h]
      · rw [Int.compare_eq_gt.2 h]; simp; omega
    · rw [order_nan_r hb]; rfl
  · rw [order_nan_l ha]; rfl
theorem t_gt (a b : Nat) : (FloatKind.f64.format.order a b == some Ordering.gt) = (!nanB a && !nanB b && decide (vl b < vl a)) := by
  show (Ieee.double.order a b == some Ordering.gt) = _
  cases ha : nanB a
  · cases hb : nanB b
    · rw [order_of ha hb]
      rcases Int.lt_trichotomy (vl a) (vl b) with h | h | h
      · rw [Int.compare_eq_lt.2 h]; simp; omega
      · rw [Int.compare_eq_eq.2 h]; simp [h]
      · rw [Int.compare_eq_gt.2 h]; simp [h]
    · rw [order_nan_r hb]; rfl
  · rw [order_nan_l ha]; rfl
theorem t_eqv (a b : Nat) : (FloatKind.f64.format.order a b == some Ordering.eq) = (!nanB a && !nanB b && decide (vl a = vl b)) := by
  show (Ieee.double.order a b == some Ordering.eq) = _
  cases ha : nanB a
  · cases hb : nanB b
    · rw [order_of ha hb]
      rcases Int.lt_trichotomy (vl a) (vl b) with h | h | h
      · rw [Int.compare_eq_lt.2 h]; simp; omega
      · rw [Int.compare_eq_eq.2 h]; simp [h]
      · rw [Int.compare_eq_gt.2 h]; simp; omega
    · rw [order_nan_r hb]; rfl
  · rw [order_nan_l ha]; rfl
theorem t_eq0 (a : Nat) : (FloatKind.f64.format.order a 0 == some Ordering.eq) = decide (rg a = 0) := by
  rw [t_eqv, nanB_0]
  by_cases h : rg a = 0
  · have hn : nanB a = false := by unfold nanB; rw [h]; rfl
    have hv : vl a = vl 0 := vl_eq.2 (.inr ⟨h, rfl⟩)
    simp [h, hn, hv]
  · have hv : ¬ vl a = vl 0 := fun e => by
      rcases vl_eq.1 e with ⟨_, k⟩ | ⟨k, _⟩
      · exact h k
      · exact h k
    simp [h, hv]
theorem rg_lt (a : Nat) : rg a < 9223372036854775808 := Nat.mod_lt _ (by omega)
theorem key_nan {a : Nat} (h : nanB a = true) : key a = 9223372036854775808 := if_pos h
theorem key_lt_nan {a : Nat} (h : nanB a = false) : key a < 9223372036854775808 := by
  have := rg_lt a
  unfold key
  rw [h]
  simp only [Bool.false_eq_true, if_false]
  split <;> omega
theorem key_le (a : Nat) : key a ≤ 9223372036854775808 := by
  cases h : nanB a
  · have := key_lt_nan h; omega
  · rw [key_nan h]; omega
theorem key_lt {a b : Nat} (ha : nanB a = false) (hb : nanB b = false) (h0 : ¬ (rg a = 0 ∧ rg b = 0)) : key a < key b ↔ vl a < vl b := by
  rw [vl_lt]
  unfold key
  rw [ha, hb]
  simp only [Bool.false_eq_true, if_false]
  cases sg a <;> cases sg b <;> simp <;> omega
theorem key_zero {a b : Nat} (ha : rg a = 0) (hb : rg b = 0) : key a < key b ↔ (sg a = true ∧ sg b = false) := by
  have na : nanB a = false := by unfold nanB; rw [ha]; rfl
  have nb : nanB b = false := by unfold nanB; rw [hb]; rfl
  unfold key
  rw [na, nb, ha, hb]
  simp only [Bool.false_eq_true, if_false]
  cases sg a <;> cases sg b <;> simp
set_option maxHeartbeats 2000000 in
theorem less_calls (a b : Nat) (w : World) (ha : a < 18446744073709551616) (hb : b < 18446744073709551616) :
    Calls Tryd.prog 18 #[.float .f64 a, .float .f64 b] w fun e w' => e = .returned (.bool (decide (key a < key b))) ∧ w = w' := by
  have t1 := t_ne a
  have t2 := t_ne b
  have t3 := t_eq0 a
  have t4 := t_eq0 b
  have t5 := t_lt a b
  cases na : nanB a
  · cases nb : nanB b
    · rw [na] at t1 t5
      rw [nb] at t2 t5
      simp only [Bool.not_false, Bool.true_and] at t5
      by_cases z0 : rg a = 0
      · have t3' : (FloatKind.f64.format.order a 0 == some Ordering.eq) = true := t3.trans (by simp [z0])
        by_cases z1 : rg b = 0
        · have t4' : (FloatKind.f64.format.order b 0 == some Ordering.eq) = true := t4.trans (by simp [z1])
          have hk := key_zero z0 z1
          clear t3 t4 t5 na nb z0 z1
          cases ha0 : sg a
          · have HK : decide (key a < key b) = false := by rw [decide_eq_false_iff_not, hk, ha0]; simp
            rw [HK]
            clear HK hk
            go_enter Tryd.func18, Tryd.ntmps18
            go_wp2_with (go_at_call 37; first | ((with_reducible refine (signbit_calls a _ ha).mono ?_); rw [ha0]; rintro e w1 ⟨rfl, rfl⟩) | ((with_reducible refine (signbit_calls b _ hb).mono ?_); rw [hb0]; rintro e w1 ⟨rfl, rfl⟩))
            go_ret
            exact ⟨rfl, rfl⟩
          · cases hb0 : sg b
            · have HK : decide (key a < key b) = true := by rw [decide_eq_true_eq, hk, ha0, hb0]; simp
              rw [HK]
              clear HK hk
              go_enter Tryd.func18, Tryd.ntmps18
              go_wp2_with (go_at_call 37; first | ((with_reducible refine (signbit_calls a _ ha).mono ?_); rw [ha0]; rintro e w1 ⟨rfl, rfl⟩) | ((with_reducible refine (signbit_calls b _ hb).mono ?_); rw [hb0]; rintro e w1 ⟨rfl, rfl⟩))
              go_ret
              exact ⟨rfl, rfl⟩
            · have HK : decide (key a < key b) = false := by rw [decide_eq_false_iff_not, hk, hb0]; simp
              rw [HK]
              clear HK hk
              go_enter Tryd.func18, Tryd.ntmps18
              go_wp2_with (go_at_call 37; first | ((with_reducible refine (signbit_calls a _ ha).mono ?_); rw [ha0]; rintro e w1 ⟨rfl, rfl⟩) | ((with_reducible refine (signbit_calls b _ hb).mono ?_); rw [hb0]; rintro e w1 ⟨rfl, rfl⟩))
              go_ret
              exact ⟨rfl, rfl⟩
        · have t4' : (FloatKind.f64.format.order b 0 == some Ordering.eq) = false := t4.trans (by simp [z1])
          have hk := key_lt na nb (fun h => z1 h.2)
          clear t3 t4 na nb z0 z1
          by_cases hv : vl a < vl b
          · have t6 : (FloatKind.f64.format.order a b == some Ordering.lt) = true := t5.trans (by simp [hv])
            have HK : decide (key a < key b) = true := by rw [decide_eq_true_eq, hk]; exact hv
            rw [HK]
            clear HK hk hv t5
            go_enter Tryd.func18, Tryd.ntmps18
            go_wp2_with (fail)
            go_ret
            exact ⟨rfl, rfl⟩
          · have t6 : (FloatKind.f64.format.order a b == some Ordering.lt) = false := t5.trans (by simp [hv])
            have HK : decide (key a < key b) = false := by rw [decide_eq_false_iff_not, hk]; exact hv
            rw [HK]
            clear HK hk hv t5
            go_enter Tryd.func18, Tryd.ntmps18
            go_wp2_with (fail)
            go_ret
            exact ⟨rfl, rfl⟩
      · have t3' : (FloatKind.f64.format.order a 0 == some Ordering.eq) = false := t3.trans (by simp [z0])
        have hk := key_lt na nb (fun h => z0 h.1)
        clear t3 t4 na nb z0
        by_cases hv : vl a < vl b
        · have t6 : (FloatKind.f64.format.order a b == some Ordering.lt) = true := t5.trans (by simp [hv])
          have HK : decide (key a < key b) = true := by rw [decide_eq_true_eq, hk]; exact hv
          rw [HK]
          clear HK hk hv t5
          go_enter Tryd.func18, Tryd.ntmps18
          go_wp2_with (fail)
          go_ret
          exact ⟨rfl, rfl⟩
        · have t6 : (FloatKind.f64.format.order a b == some Ordering.lt) = false := t5.trans (by simp [hv])
          have HK : decide (key a < key b) = false := by rw [decide_eq_false_iff_not, hk]; exact hv
          rw [HK]
          clear HK hk hv t5
          go_enter Tryd.func18, Tryd.ntmps18
          go_wp2_with (fail)
          go_ret
          exact ⟨rfl, rfl⟩
    · rw [na] at t1
      rw [nb] at t2
      have HK : decide (key a < key b) = true := by rw [decide_eq_true_eq, key_nan nb]; exact key_lt_nan na
      clear t3 t4 t5 na nb
      rw [HK]
      clear HK
      go_enter Tryd.func18, Tryd.ntmps18
      go_wp2_with (fail)
      go_ret
      exact ⟨rfl, rfl⟩
  · rw [na] at t1
    have HK : decide (key a < key b) = false := by rw [decide_eq_false_iff_not, key_nan na]; have := key_le b; omega
    clear t2 t3 t4 t5 na
    rw [HK]
    clear HK
    go_enter Tryd.func18, Tryd.ntmps18
    go_wp2_with (fail)
    go_ret
    exact ⟨rfl, rfl⟩
theorem same_pure (x y : Int) : (!decide (x < y) && !decide (y < x)) = decide (x = y) := by
  rcases Int.lt_trichotomy x y with h | h | h
  · simp [h]; omega
  · simp [h]
  · simp [h]; omega
set_option maxHeartbeats 1000000 in
theorem same_calls (a b : Nat) (w : World) (ha : a < 18446744073709551616) (hb : b < 18446744073709551616) :
    Calls Tryd.prog 20 #[.float .f64 a, .float .f64 b] w fun e w' => e = .returned (.bool (decide (key a = key b))) ∧ w = w' := by
  have HP := Aside0.mk (same_pure (key a) (key b))
  cases h1 : decide (key a < key b)
  · go_enter Tryd.func20, Tryd.ntmps20
    go_wp2_with fail
    ((with_reducible refine (less_calls a b _ ha hb).mono ?_); rw [h1]; rintro e w1 ⟨rfl, rfl⟩)
    go_wp2_with fail
    ((with_reducible refine (less_calls b a _ hb ha).mono ?_); rintro e w1 ⟨rfl, rfl⟩)
    go_wp2
    go_ret
    exact ⟨ret_b (by rw [← HP.out, h1]; rfl), rfl⟩
  · go_enter Tryd.func20, Tryd.ntmps20
    go_wp2_with fail
    ((with_reducible refine (less_calls a b _ ha hb).mono ?_); rw [h1]; rintro e w1 ⟨rfl, rfl⟩)
    go_wp2
    go_ret
    exact ⟨ret_b (by rw [← HP.out, h1]; rfl), rfl⟩
set_option maxHeartbeats 1000000 in
theorem nan_calls (w : World) : Calls Tryd.prog 35 #[] w fun e w' => e = .returned (.float .f64 9221120237041090561) ∧ w = w' := by
  go_enter Tryd.func35, Tryd.ntmps35
  go_wp2
  rw [run_callFunc_extern Tryd.func53 (by kernel_rfl) (by kernel_rfl) (by kernel_rfl) (e := Extern.MathFloatBits.float64frombits) (by kernel_rfl), run_f64from]
  simp only [Result.andThen]
  rw [Oper.upon_value]
  go_wp2
  go_ret
  exact ⟨rfl, rfl⟩
end Go.Proofs.YtolecdgpfflijaaDoor
