/- law01's X: some float. -/
import Derived.Test.YtolecdgpfflijaaDoorGaugeText
import Derived.Test.YtolecdgpfflijaaDoorKeep
namespace Go.Proofs.YtolecdgpfflijaaDoor
open Go.RowKit Go.Proofs.YtolecdgpfflijaaDoorW.PrintWords Go.Proofs.YtolecdgpfflijaaDoorW.PrintLast Go.Proofs.YtolecdgpfflijaaDoorW.PrintMore
set_option linter.unusedVariables false
set_option linter.unusedSimpArgs false
set_option maxRecDepth 1000000
abbrev fl_quo := @run_float Tryd.prog .quo (.inr (.inr (.inr rfl))) 24
abbrev fl_mul := @run_float Tryd.prog .mul (.inr (.inr (.inl rfl))) 24
theorem drawn_trans {w w1 w2 : World} (h : Drawn0 w w1) (h' : Drawn0 w1 w2) : Drawn0 w w2 := by
  obtain ⟨⟨n, rfl⟩⟩ := h
  obtain ⟨⟨m, rfl⟩⟩ := h'
  exact ⟨⟨n + m, by simp [World.drewN]; omega⟩⟩
set_option maxHeartbeats 8000000 in
theorem x_calls (a b how : Int) (x : Nat) (w : World) (hx : x < 18446744073709551616) :
    Calls Tryd.prog 15 #[.int .i64 a, .int .i64 b, .int .i64 how, .float .f64 x] w fun e w' => ∃ r, e = .returned (.float .f64 r) ∧ r < 18446744073709551616 ∧ Drawn0 w w' := by
  obtain ⟨v0, v12⟩ := wi_bd how 12 (by omega)
  obtain ⟨u0, u9⟩ := wi_bd a 9 (by omega)
  obtain ⟨s0, s1⟩ := wi_bd a 2001 (by omega)
  obtain ⟨t0, t1⟩ := wi_bd b 41 (by omega)
  have hng := run_neg (P := Tryd.prog) 0
  generalize hv : wi how 12 = v at *
  have HV := Aside0.mk hv
  clear hv
  generalize hu : wi a 9 = u at *
  have HU := Aside0.mk hu
  clear hu
  generalize hs : wi a 2001 = s at *
  have HS := Aside0.mk hs
  clear hs
  generalize ht : wi b 41 = t at *
  have HT := Aside0.mk ht
  clear ht
  by_cases h0 : v = 0
  · subst h0
    go_enter Tryd.func15, Tryd.ntmps15
    go_wp2_with fail
    ((with_reducible refine (within_calls how 12 _ (by omega)).mono ?_); rw [HV.out]; rintro e w1 ⟨rfl, rfl⟩)
    go_wp2
    go_ret
    exact ⟨_, rfl, hx, Drawn0.refl _⟩
  by_cases h1 : v = 1
  · subst h1
    obtain ⟨r, n, hrun, hr, _⟩ := fl_quo 0 0 w
    go_enter Tryd.func15, Tryd.ntmps15
    go_wp2_with fail
    ((with_reducible refine (within_calls how 12 _ (by omega)).mono ?_); rw [HV.out]; rintro e w1 ⟨rfl, rfl⟩)
    go_wp2
    go_ret
    exact ⟨_, rfl, hr, ⟨⟨n, rfl⟩⟩⟩
  by_cases h2 : v = 2
  · subst h2
    obtain ⟨r, n, hrun, hr, _⟩ := fl_quo 4607182418800017408 0 w
    go_enter Tryd.func15, Tryd.ntmps15
    go_wp2_with fail
    ((with_reducible refine (within_calls how 12 _ (by omega)).mono ?_); rw [HV.out]; rintro e w1 ⟨rfl, rfl⟩)
    go_wp2
    go_ret
    exact ⟨_, rfl, hr, ⟨⟨n, rfl⟩⟩⟩
  by_cases h3 : v = 3
  · subst h3
    obtain ⟨r, n, hrun, hr, _⟩ := fl_quo 13830554455654793216 0 w
    go_enter Tryd.func15, Tryd.ntmps15
    go_wp2_with fail
    ((with_reducible refine (within_calls how 12 _ (by omega)).mono ?_); rw [HV.out]; rintro e w1 ⟨rfl, rfl⟩)
    go_wp2
    go_ret
    exact ⟨_, rfl, hr, ⟨⟨n, rfl⟩⟩⟩
  by_cases h4 : v = 4
  · subst h4
    have hng0 := hng w
    obtain ⟨r, n, hrun, hr, _⟩ := fl_mul (Op.negFloat .f64 0) (floatOfInt .f64 (1 + u)) w
    obtain ⟨r2, n2, hrun2, hr2, _⟩ := fl_mul r 13830554455654793216 (w.drewN n)
    obtain ⟨r3, n3, hrun3, hr3, _⟩ := fl_mul r2 13830554455654793216 (w.drewN (n + n2))
    go_enter Tryd.func15, Tryd.ntmps15
    go_wp2_with fail
    ((with_reducible refine (within_calls how 12 _ (by omega)).mono ?_); rw [HV.out]; rintro e w1 ⟨rfl, rfl⟩)
    go_wp2_with fail
    ((with_reducible refine (within_calls a 9 _ (by omega)).mono ?_); rw [HU.out]; rintro e w1 ⟨rfl, rfl⟩)
    go_wp2
    go_ret
    exact ⟨_, rfl, hr3, by first | exact Drawn0.step ⟨⟨n + n2, rfl⟩⟩ n3 | exact ⟨⟨_, rfl⟩⟩⟩
  by_cases h5 : v = 5
  · subst h5
    have hng5 := run_neg (P := Tryd.prog) (floatOfInt .f64 (1 + u)) w
    obtain ⟨r, n, hrun, hr, _⟩ := fl_quo 0 (Op.negFloat .f64 (floatOfInt .f64 (1 + u))) w
    go_enter Tryd.func15, Tryd.ntmps15
    go_wp2_with fail
    ((with_reducible refine (within_calls how 12 _ (by omega)).mono ?_); rw [HV.out]; rintro e w1 ⟨rfl, rfl⟩)
    go_wp2_with fail
    ((with_reducible refine (within_calls a 9 _ (by omega)).mono ?_); rw [HU.out]; rintro e w1 ⟨rfl, rfl⟩)
    go_wp2
    go_ret
    exact ⟨_, rfl, hr, ⟨⟨n, rfl⟩⟩⟩
  by_cases h6 : v = 6
  · subst h6
    obtain ⟨r, n, hrun, hr, _⟩ := fl_mul (floatOfInt .f64 a) 4786511204640096256 w
    go_enter Tryd.func15, Tryd.ntmps15
    go_wp2_with fail
    ((with_reducible refine (within_calls how 12 _ (by omega)).mono ?_); rw [HV.out]; rintro e w1 ⟨rfl, rfl⟩)
    go_wp2
    go_ret
    exact ⟨_, rfl, hr, ⟨⟨n, rfl⟩⟩⟩
  · obtain ⟨r, n, hrun, hr, _⟩ := fl_quo (floatOfInt .f64 (s - 1000)) (floatOfInt .f64 (t - 20)) w
    go_enter Tryd.func15, Tryd.ntmps15
    go_wp2_with fail
    ((with_reducible refine (within_calls how 12 _ (by omega)).mono ?_); rw [HV.out]; rintro e w1 ⟨rfl, rfl⟩)
    go_wp2_with fail
    ((with_reducible refine (within_calls a 2001 _ (by omega)).mono ?_); rw [HS.out]; rintro e w1 ⟨rfl, rfl⟩)
    go_wp2_with fail
    ((with_reducible refine (within_calls b 41 _ (by omega)).mono ?_); rw [HT.out]; rintro e w1 ⟨rfl, rfl⟩)
    go_wp2
    go_ret
    exact ⟨_, rfl, hr, ⟨⟨n, rfl⟩⟩⟩
end Go.Proofs.YtolecdgpfflijaaDoor
