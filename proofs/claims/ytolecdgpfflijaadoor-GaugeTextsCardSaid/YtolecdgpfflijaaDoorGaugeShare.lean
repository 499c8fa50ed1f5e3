/- gauge's Share; the reference's. -/
import Derived.Test.YtolecdgpfflijaaDoorGaugeLess
namespace Go.Proofs.YtolecdgpfflijaaDoor
open Go.RowKit Go.Proofs.YtolecdgpfflijaaDoorW.PrintWords Go.Proofs.YtolecdgpfflijaaDoorW.PrintLast Go.Proofs.YtolecdgpfflijaaDoorW.PrintMore
set_option linter.unusedVariables false
set_option linter.unusedSimpArgs false
set_option maxRecDepth 1000000
def near40 (n : Int) : Bool := decide (-1099511627776 ≤ n ∧ n ≤ 1099511627776)
set_option maxHeartbeats 1000000 in
theorem gwithin_calls (n : Int) (w : World) : Calls Tryd.prog 34 #[.int .i64 n] w fun e w' => e = .returned (.bool (near40 n)) ∧ w = w' := by
  by_cases h0 : -1099511627776 ≤ n
  · by_cases h1 : n ≤ 1099511627776
    · rw [show near40 n = true from decide_eq_true ⟨h0, h1⟩]
      go_enter Tryd.func34, Tryd.ntmps34
      go_wp2
      go_ret
      exact ⟨rfl, rfl⟩
    · rw [show near40 n = false from decide_eq_false (fun h => h1 h.2)]
      go_enter Tryd.func34, Tryd.ntmps34
      go_wp2
      go_ret
      exact ⟨rfl, rfl⟩
  · rw [show near40 n = false from decide_eq_false (fun h => h0 h.1)]
    go_enter Tryd.func34, Tryd.ntmps34
    go_wp2
    go_ret
    exact ⟨rfl, rfl⟩
/-- What a share is. -/
def shareO (p q : Int) : Option Nat := if near40 p && near40 q then floatBits .quo .f64 (floatOfInt .f64 p) (floatOfInt .f64 q) else none
set_option maxHeartbeats 2000000 in
theorem share_calls (p q : Int) (w : World) :
    Calls Tryd.prog 12 #[.int .i64 p, .int .i64 q] w fun e w' => ∃ r, e = .returned (.float .f64 r) ∧ r < 18446744073709551616 ∧ Comes (shareO p q) r ∧ Drawn0 w w' := by
  obtain ⟨r, n, hrun, hr, hc⟩ := run_float (P := Tryd.prog) .quo (.inr (.inr (.inr rfl))) 24 (floatOfInt .f64 p) (floatOfInt .f64 q) w
  have HC := Aside0.mk hc
  clear hc
  have HS := Aside0.mk (show shareO p q = if near40 p && near40 q then floatBits .quo .f64 (floatOfInt .f64 p) (floatOfInt .f64 q) else none from rfl)
  cases hp : near40 p
  · go_enter Tryd.func12, Tryd.ntmps12
    go_wp2_with fail
    ((with_reducible refine (gwithin_calls p _).mono ?_); rw [hp]; rintro e w1 ⟨rfl, rfl⟩)
    go_wp2_with fail
    ((with_reducible refine (nan_calls _).mono ?_); rintro e w1 ⟨rfl, rfl⟩)
    go_wp2
    go_ret
    exact ⟨_, rfl, by omega, by rw [HS.out, hp]; exact (by decide : nanB 9221120237041090561 = true), Drawn0.refl _⟩
  · cases hq : near40 q
    · go_enter Tryd.func12, Tryd.ntmps12
      go_wp2_with fail
      ((with_reducible refine (gwithin_calls p _).mono ?_); rw [hp]; rintro e w1 ⟨rfl, rfl⟩)
      go_wp2_with fail
      ((with_reducible refine (gwithin_calls q _).mono ?_); rw [hq]; rintro e w1 ⟨rfl, rfl⟩)
      go_wp2_with fail
      ((with_reducible refine (nan_calls _).mono ?_); rintro e w1 ⟨rfl, rfl⟩)
      go_wp2
      go_ret
      exact ⟨_, rfl, by omega, by rw [HS.out, hp, hq]; exact (by decide : nanB 9221120237041090561 = true), Drawn0.refl _⟩
    · go_enter Tryd.func12, Tryd.ntmps12
      go_wp2_with fail
      ((with_reducible refine (gwithin_calls p _).mono ?_); rw [hp]; rintro e w1 ⟨rfl, rfl⟩)
      go_wp2_with fail
      ((with_reducible refine (gwithin_calls q _).mono ?_); rw [hq]; rintro e w1 ⟨rfl, rfl⟩)
      go_wp2
      go_ret
      exact ⟨_, rfl, hr, by rw [HS.out, hp, hq]; exact HC.out, ⟨⟨n, rfl⟩⟩⟩
set_option maxHeartbeats 2000000 in
theorem isinf1_calls (b : Nat) (w : World) :
    Calls Tryd.prog 36 #[.float .f64 b, .int .i64 1] w fun e w' => e = .returned (.bool (!nanB b && !sg b && infB b)) ∧ w = w' := by
  have t := t_gt b 9218868437227405311
  have h : (!nanB b && !nanB 9218868437227405311 && decide (vl 9218868437227405311 < vl b)) = (!nanB b && !sg b && infB b) := by
    cases hn : nanB b
    · have hn' := of_decide_eq_false hn
      rw [show nanB 9218868437227405311 = false from by decide]
      simp only [Bool.not_false, Bool.true_and]
      rw [Bool.eq_iff_iff, decide_eq_true_eq, vl_lt, show sg 9218868437227405311 = false from by decide, show rg 9218868437227405311 = 9218868437227405311 from by decide]
      unfold infB
      cases sg b
      · simp; omega
      · simp
    · rfl
  rw [h] at t
  have HT := Aside0.mk t
  generalize (!nanB b && !sg b && infB b) = q at *
  clear h
  go_enter Tryd.func36, Tryd.ntmps36
  go_wp2
  go_ret
  exact ⟨ret_b (by rfl), rfl⟩
theorem neg_bits (b : Nat) (h : b < 18446744073709551616) : True := trivial
end Go.Proofs.YtolecdgpfflijaaDoor
