/- ref01's rank, Minus, Less, Best. -/
import Derived.Test.YtolecdgpfflijaaDoorFloatTwo
import Derived.Test.YtolecdgpfflijaaDoorGaugeBest
import Derived.Test.YtolecdgpfflijaaDoorGaugeShare
namespace Go.Proofs.YtolecdgpfflijaaDoor
open Go.RowKit Go.Proofs.YtolecdgpfflijaaDoorW.PrintWords Go.Proofs.YtolecdgpfflijaaDoorW.PrintLast Go.Proofs.YtolecdgpfflijaaDoorW.PrintMore
set_option linter.unusedVariables false
set_option linter.unusedSimpArgs false
set_option maxRecDepth 1000000
/-- Endless below, numbers, endless, none. -/
def rk (x : Nat) : Int := if nanB x = true then 3 else if infB x = true then (if sg x = true then 0 else 2) else 1
theorem t_gt0 (x : Nat) : (FloatKind.f64.format.order x 0 == some Ordering.gt) = (!nanB x && !sg x && decide (rg x ≠ 0)) := by
  rw [t_gt, nanB_0, Bool.eq_iff_iff]
  cases hn : nanB x
  · cases hs : sg x <;> simp [vl_lt, hs, show sg 0 = false from by decide, show rg 0 = 0 from by decide] <;> omega
  · simp
theorem t_lt0 (x : Nat) : (FloatKind.f64.format.order x 0 == some Ordering.lt) = (!nanB x && sg x && decide (rg x ≠ 0)) := by
  rw [t_lt, nanB_0, Bool.eq_iff_iff]
  cases hn : nanB x
  · cases hs : sg x <;> simp [vl_lt, hs, show sg 0 = false from by decide, show rg 0 = 0 from by decide] <;> omega
  · simp
theorem t_two {x : Nat} (h : nanB x = false) : (FloatKind.f64.format.order x (Ieee.double.word (sg x) (dbl (rg x))) == some Ordering.eq) = decide (rg x = 0 ∨ rg x = 9218868437227405312) := by
  have hr : rg x ≤ 9218868437227405312 := by have := of_decide_eq_false h; omega
  obtain ⟨e1, e2, e3⟩ := word_rg (sg x) (dbl (rg x)) (dbl_le hr)
  have hn : nanB (Ieee.double.word (sg x) (dbl (rg x))) = false := by
    unfold nanB
    rw [e1]
    exact decide_eq_false (by have := dbl_le hr; omega)
  rw [t_eqv, h, hn]
  simp only [Bool.not_false, Bool.true_and]
  rw [Bool.eq_iff_iff, decide_eq_true_eq, decide_eq_true_eq, vl_eq, e1, e2, ← dbl_eq hr]
  constructor
  · rintro (⟨_, q⟩ | ⟨q, _⟩)
    · exact q.symm
    · rw [q]; rfl
  · exact fun q => .inl ⟨rfl, q.symm⟩
set_option maxHeartbeats 2000000 in
theorem rank_calls (x : Nat) (w : World) :
    Calls Tryd.prog 40 #[.float .f64 x] w fun e w' => e = .returned (.int .i64 (rk x)) ∧ w = w' := by
  have t1 := t_ne x
  cases hn : nanB x
  · have hm := run_float_arith (P := Tryd.prog) w .mul 24 .f64 4611686018427387904 x _ (mul_two hn)
    have t2 := t_two hn
    have t3 := t_gt0 x
    have t4 := t_lt0 x
    rw [hn] at t1 t3 t4
    have hk : rk x = if decide (rg x = 9218868437227405312) = true then (if sg x = true then 0 else 2) else 1 := by
      unfold rk
      rw [hn]
      rfl
    have HK := Aside0.mk hk
    clear hk
    generalize Ieee.double.word (sg x) (dbl (rg x)) = d at *
    by_cases h0 : rg x = 0
    · have e2 : decide (rg x ≠ 0) = false := decide_eq_false (by omega)
      have e3 : decide (rg x = 9218868437227405312) = false := decide_eq_false (by omega)
      rw [e2] at t3 t4
      rw [e3] at HK
      generalize sg x = s at *
      clear hm t2 h0 e2 e3 hn
      rw [Bool.and_false] at t3 t4
      go_enter Tryd.func40, Tryd.ntmps40
      go_wp2
      go_ret
      exact ⟨by rw [HK.out]; rfl, rfl⟩
    · have e2 : decide (rg x ≠ 0) = true := decide_eq_true h0
      rw [e2] at t3 t4
      by_cases h1 : rg x = 9218868437227405312
      · have e3 : decide (rg x = 9218868437227405312) = true := decide_eq_true h1
        have e4 : decide (rg x = 0 ∨ rg x = 9218868437227405312) = true := decide_eq_true (.inr h1)
        rw [e3] at HK
        rw [e4] at t2
        clear h0 e2 e3 e4 h1 hn
        generalize sg x = s at *
        cases s
        all_goals
          go_enter Tryd.func40, Tryd.ntmps40
          go_wp2
          go_ret
          exact ⟨by rw [HK.out]; rfl, rfl⟩
      · have e3 : decide (rg x = 9218868437227405312) = false := decide_eq_false h1
        have e4 : decide (rg x = 0 ∨ rg x = 9218868437227405312) = false := decide_eq_false (by omega)
        rw [e3] at HK
        rw [e4] at t2
        clear h0 e2 e3 e4 h1 hn
        generalize sg x = s at *
        cases s
        all_goals
          go_enter Tryd.func40, Tryd.ntmps40
          go_wp2
          go_ret
          exact ⟨by rw [HK.out]; rfl, rfl⟩
  · rw [hn] at t1
    have HK := Aside0.mk (show rk x = 3 from if_pos hn)
    clear hn
    go_enter Tryd.func40, Tryd.ntmps40
    go_wp2
    go_ret
    exact ⟨by rw [HK.out]; rfl, rfl⟩
/-- Below 0, or nought with a minus. -/
def minus (x : Nat) : Bool := !nanB x && sg x
theorem zero_two {x : Nat} (hx : x < 18446744073709551616) (h : rg x = 0) : x = 0 ∨ x = 9223372036854775808 := by unfold rg at h; omega
set_option maxHeartbeats 2000000 in
theorem minus_calls (x : Nat) (w : World) (hx : x < 18446744073709551616) :
    Calls Tryd.prog 39 #[.float .f64 x] w fun e w' => e = .returned (.bool (minus x)) ∧ w = w' := by
  by_cases h0 : rg x = 0
  · rcases zero_two hx h0 with rfl | rfl
    · have hm := run_float_arith (P := Tryd.prog) w .quo 24 .f64 4607182418800017408 0 9218868437227405312 (by decide +kernel)
      have t1 : (FloatKind.f64.format.order 0 0 == some Ordering.lt) = false := by decide +kernel
      have t2 : (FloatKind.f64.format.order 0 0 == some Ordering.eq) = true := by decide +kernel
      have t3 : (FloatKind.f64.format.order 9218868437227405312 0 == some Ordering.lt) = false := by decide +kernel
      have HK := Aside0.mk (show minus 0 = false from by decide)
      clear h0 hx
      go_enter Tryd.func39, Tryd.ntmps39
      go_wp2
      go_ret
      exact ⟨ret_b HK.out.symm, rfl⟩
    · have hm := run_float_arith (P := Tryd.prog) w .quo 24 .f64 4607182418800017408 9223372036854775808 18442240474082181120 (by decide +kernel)
      have t1 : (FloatKind.f64.format.order 9223372036854775808 0 == some Ordering.lt) = false := by decide +kernel
      have t2 : (FloatKind.f64.format.order 9223372036854775808 0 == some Ordering.eq) = true := by decide +kernel
      have t3 : (FloatKind.f64.format.order 18442240474082181120 0 == some Ordering.lt) = true := by decide +kernel
      have HK := Aside0.mk (show minus 9223372036854775808 = true from by decide)
      clear h0 hx
      go_enter Tryd.func39, Tryd.ntmps39
      go_wp2
      go_ret
      exact ⟨ret_b HK.out.symm, rfl⟩
  · have t1 := t_lt0 x
    rw [decide_eq_true h0, Bool.and_true, show (!nanB x && sg x) = minus x from rfl] at t1
    have t2 := t_eq0 x
    rw [decide_eq_false h0] at t2
    cases hm : minus x
    all_goals
      rw [hm] at t1
      clear h0 hx hm
      go_enter Tryd.func39, Tryd.ntmps39
      go_wp2
      go_ret
      exact ⟨rfl, rfl⟩
theorem nan_rk {x : Nat} (h : nanB x = true) : rk x = 3 := if_pos h
theorem num_rk {x : Nat} (h : nanB x = false) (h' : infB x = false) : rk x = 1 := by unfold rk; rw [h, h']; rfl
theorem inf_rk {x : Nat} (h : infB x = true) : rk x = if sg x = true then 0 else 2 := by
  have hn : nanB x = false := by have := of_decide_eq_true h; exact decide_eq_false (by omega)
  unfold rk
  rw [hn, h]
  rfl
theorem key_of {x : Nat} (h : nanB x = false) : key x = if sg x = true then -(rg x : Int) - 1 else rg x := by unfold key; rw [h]; rfl
/-- Where a key lies by the rank. -/
theorem rk_key (x : Nat) : (rk x = 3 ∧ key x = 9223372036854775808) ∨ (rk x = 2 ∧ key x = 9218868437227405312) ∨ (rk x = 1 ∧ -9218868437227405312 ≤ key x ∧ key x < 9218868437227405312) ∨ (rk x = 0 ∧ key x = -9218868437227405313) := by
  cases hn : nanB x
  · cases hi : infB x
    · right; right; left
      have h1 := of_decide_eq_false hn
      have h2 := of_decide_eq_false hi
      refine ⟨num_rk hn hi, ?_⟩
      rw [key_of hn]
      split <;> omega
    · have h2 := of_decide_eq_true hi
      rw [inf_rk hi, key_of hn, h2]
      cases sg x
      · exact .inr (.inl ⟨rfl, rfl⟩)
      · exact .inr (.inr (.inr ⟨rfl, rfl⟩))
  · exact .inl ⟨nan_rk hn, key_nan hn⟩
theorem less_ne {a b : Nat} (h : rk a ≠ rk b) : decide (rk a < rk b) = decide (key a < key b) := by
  have ha := rk_key a
  have hb := rk_key b
  rw [Bool.eq_iff_iff, decide_eq_true_eq, decide_eq_true_eq]
  omega
theorem less_not1 {a b : Nat} (h : rk a = rk b) (h1 : rk a ≠ 1) : decide (key a < key b) = false := by
  have ha := rk_key a
  have hb := rk_key b
  exact decide_eq_false (by omega)
theorem rk1_num {x : Nat} (h : rk x = 1) : nanB x = false := by
  cases hn : nanB x
  · rfl
  · rw [nan_rk hn] at h; omega
theorem less_one {a b : Nat} (ha : rk a = 1) (hb : rk b = 1) : (FloatKind.f64.format.order a b == some Ordering.lt || (decide (rg a = 0) && decide (rg b = 0) && minus a && !minus b)) = decide (key a < key b) := by
  have na := rk1_num ha
  have nb := rk1_num hb
  rw [t_lt, na, nb, Bool.eq_iff_iff]
  simp only [Bool.not_false, Bool.true_and]
  unfold minus
  rw [na, nb]
  simp only [Bool.not_false, Bool.true_and]
  by_cases hz : rg a = 0 ∧ rg b = 0
  · rw [decide_eq_true_eq, key_zero hz.1 hz.2]
    have hv : ¬ vl a < vl b := by
      have e : vl a = vl b := vl_eq.2 (.inr hz)
      omega
    rw [decide_eq_false hv, decide_eq_true hz.1, decide_eq_true hz.2]
    simp
  · have e : (decide (rg a = 0) && decide (rg b = 0)) = false := by
      simp only [Bool.and_eq_false_iff, decide_eq_false_iff_not]
      omega
    rw [e, Bool.false_and, Bool.false_and, Bool.or_false, decide_eq_true_eq, decide_eq_true_eq, key_lt na nb hz]
set_option maxHeartbeats 2000000 in
theorem rless_calls (a b : Nat) (w : World) (ha : a < 18446744073709551616) (hb : b < 18446744073709551616) :
    Calls Tryd.prog 19 #[.float .f64 a, .float .f64 b] w fun e w' => e = .returned (.bool (decide (key a < key b))) ∧ w = w' := by
  have KA := Aside0.mk (fun W => rank_calls a W)
  have KB := Aside0.mk (fun W => rank_calls b W)
  have MA := Aside0.mk (fun W => minus_calls a W ha)
  have MB := Aside0.mk (fun W => minus_calls b W hb)
  by_cases hne : rk a = rk b
  · by_cases h1 : rk a = 1
    · have h2 : rk b = 1 := by omega
      have hl := less_one h1 h2
      have HL := Aside0.mk hl
      have t1 := t_eq0 a
      have t2 := t_eq0 b
      rw [h1] at KA
      rw [h2] at KB
      clear ha hb hne h1 h2 hl
      cases hq : FloatKind.f64.format.order a b == some Ordering.lt
      · rw [hq] at HL
        cases hza : decide (rg a = 0)
        · rw [hza] at HL t1
          clear hza
          go_enter Tryd.func19, Tryd.ntmps19
          go_wp2_with fail
          ((with_reducible refine (KA.out _).mono ?_); rintro e w1 ⟨rfl, rfl⟩)
          go_wp2_with fail
          ((with_reducible refine (KB.out _).mono ?_); rintro e w1 ⟨rfl, rfl⟩)
          go_wp2_with fail
          ((with_reducible refine (KA.out _).mono ?_); rintro e w1 ⟨rfl, rfl⟩)
          go_wp2
          go_ret
          exact ⟨ret_b (by rw [← HL.out]; rfl), rfl⟩
        · rw [hza] at HL t1
          clear hza
          cases hzb : decide (rg b = 0)
          · rw [hzb] at HL t2
            clear hzb
            go_enter Tryd.func19, Tryd.ntmps19
            go_wp2_with fail
            ((with_reducible refine (KA.out _).mono ?_); rintro e w1 ⟨rfl, rfl⟩)
            go_wp2_with fail
            ((with_reducible refine (KB.out _).mono ?_); rintro e w1 ⟨rfl, rfl⟩)
            go_wp2_with fail
            ((with_reducible refine (KA.out _).mono ?_); rintro e w1 ⟨rfl, rfl⟩)
            go_wp2
            go_ret
            exact ⟨ret_b (by rw [← HL.out]; rfl), rfl⟩
          · rw [hzb] at HL t2
            clear hzb
            cases hma : minus a
            · rw [hma] at HL MA
              clear hma
              go_enter Tryd.func19, Tryd.ntmps19
              go_wp2_with fail
              ((with_reducible refine (KA.out _).mono ?_); rintro e w1 ⟨rfl, rfl⟩)
              go_wp2_with fail
              ((with_reducible refine (KB.out _).mono ?_); rintro e w1 ⟨rfl, rfl⟩)
              go_wp2_with fail
              ((with_reducible refine (KA.out _).mono ?_); rintro e w1 ⟨rfl, rfl⟩)
              go_wp2_with fail
              ((with_reducible refine (MA.out _).mono ?_); rintro e w1 ⟨rfl, rfl⟩)
              go_wp2
              go_ret
              exact ⟨ret_b (by rw [← HL.out]; rfl), rfl⟩
            · rw [hma] at HL MA
              clear hma
              generalize minus b = mb at *
              go_enter Tryd.func19, Tryd.ntmps19
              go_wp2_with fail
              ((with_reducible refine (KA.out _).mono ?_); rintro e w1 ⟨rfl, rfl⟩)
              go_wp2_with fail
              ((with_reducible refine (KB.out _).mono ?_); rintro e w1 ⟨rfl, rfl⟩)
              go_wp2_with fail
              ((with_reducible refine (KA.out _).mono ?_); rintro e w1 ⟨rfl, rfl⟩)
              go_wp2_with fail
              ((with_reducible refine (MA.out _).mono ?_); rintro e w1 ⟨rfl, rfl⟩)
              go_wp2_with fail
              ((with_reducible refine (MB.out _).mono ?_); rintro e w1 ⟨rfl, rfl⟩)
              go_wp2
              go_ret
              exact ⟨ret_b (by rw [← HL.out]; cases mb <;> rfl), rfl⟩
      · rw [hq] at HL
        go_enter Tryd.func19, Tryd.ntmps19
        go_wp2_with fail
        ((with_reducible refine (KA.out _).mono ?_); rintro e w1 ⟨rfl, rfl⟩)
        go_wp2_with fail
        ((with_reducible refine (KB.out _).mono ?_); rintro e w1 ⟨rfl, rfl⟩)
        go_wp2_with fail
        ((with_reducible refine (KA.out _).mono ?_); rintro e w1 ⟨rfl, rfl⟩)
        go_wp2
        go_ret
        exact ⟨ret_b (by rw [← HL.out]; rfl), rfl⟩
    · have HL := Aside0.mk (less_not1 hne h1)
      rw [← hne] at KB
      clear ha hb hne
      generalize rk a = r at *
      go_enter Tryd.func19, Tryd.ntmps19
      go_wp2_with fail
      ((with_reducible refine (KA.out _).mono ?_); rintro e w1 ⟨rfl, rfl⟩)
      go_wp2_with fail
      ((with_reducible refine (KB.out _).mono ?_); rintro e w1 ⟨rfl, rfl⟩)
      go_wp2_with fail
      ((with_reducible refine (KA.out _).mono ?_); rintro e w1 ⟨rfl, rfl⟩)
      go_wp2
      go_ret
      exact ⟨ret_b HL.out.symm, rfl⟩
  · have HL := Aside0.mk (less_ne hne)
    clear ha hb
    generalize rk a = r at *
    generalize rk b = s at *
    go_enter Tryd.func19, Tryd.ntmps19
    go_wp2_with fail
    ((with_reducible refine (KA.out _).mono ?_); rintro e w1 ⟨rfl, rfl⟩)
    go_wp2_with fail
    ((with_reducible refine (KB.out _).mono ?_); rintro e w1 ⟨rfl, rfl⟩)
    go_wp2_with fail
    ((with_reducible refine (KA.out _).mono ?_); rintro e w1 ⟨rfl, rfl⟩)
    go_wp2_with fail
    ((with_reducible refine (KB.out _).mono ?_); rintro e w1 ⟨rfl, rfl⟩)
    go_wp2
    go_ret
    exact ⟨ret_b HL.out, rfl⟩
theorem rk_nan (x : Nat) : (rk x == 3) = nanB x := by
  rcases rk_key x with ⟨h, k⟩ | ⟨h, k⟩ | ⟨h, k⟩ | ⟨h, k⟩ <;> rw [h]
  · cases hn : nanB x
    · have := key_lt_nan hn; omega
    · rfl
  · cases hn : nanB x
    · rfl
    · rw [key_nan hn] at k; omega
  · cases hn : nanB x
    · rfl
    · rw [key_nan hn] at k; omega
  · cases hn : nanB x
    · rfl
    · rw [key_nan hn] at k; omega
set_option maxHeartbeats 4000000 in
theorem rbest_calls (A : Option Addr) (n c : Nat) (l : List Nat) (w : World) (hr : KF.C w A n l) (hl : ∀ x ∈ l, x < 18446744073709551616) :
    Calls Tryd.prog 23 #[.slice A n c] w fun e w' => e = .returned (.int .i64 (bestAt l n)) ∧ Drawn0 w w' := by
  obtain rfl : l.length = n := Kd.C_len hr
  have HR := Aside0.mk hr
  have HLN := Aside0.mk (Kd.C_max hr)
  have HL := Aside0.mk (rdOf_lt hl)
  clear hr hl
  generalize l.length = n at *
  go_enter Tryd.func23, Tryd.ntmps23
  go_wp2
  go_loopw [3, 8] (fun b i wr => ∃ k : Nat, k ≤ n ∧ i = .int .i64 k ∧ b = .int .i64 (bestAt l k) ∧ Drawn0 w wr) (fun _ i _ => n - (intOf i).toNat)
  case atStart => exact ⟨0, by omega, rfl, rfl, by repeat (first | exact Drawn0.refl _ | apply Drawn0.step)⟩
  case round =>
    obtain ⟨k, hk, rfl, rfl, ⟨m, rfl⟩⟩ := hrel
    have hln := HLN.out
    have hst := bestAt_in l k
    have HST := Aside0.mk (show bestAt l (k + 1) = if bestT l (bestAt l k) k = true then (k : Int) else bestAt l k from rfl)
    generalize hbe : bestAt l k = b at *
    have HBE := Aside0.mk hbe
    clear hbe
    by_cases hlt : k < n
    · have k0 : (0 : Int) ≤ (k : Int) := by omega
      have k1 : (k : Int) < n := by omega
      obtain ⟨ad, rfl, hc⟩ := at_fl HR.out k k0 k1
      have HX := Aside0.mk (HL.out k)
      have HB := Aside0.mk (HL.out b)
      have HK := Aside0.mk (fun W => rank_calls (rdOf 0 l k) W)
      have HN := Aside0.mk (rk_nan (rdOf 0 l k))
      have HT := Aside0.mk (show bestT l b k = (!nanB (rdOf 0 l k) && (decide (b < 0) || decide (key (rdOf 0 l b) < key (rdOf 0 l k)))) from rfl)
      generalize rdOf 0 l k = x at *
      rw [Int.toNat_natCast] at hc
      cases hn : nanB x
      · rw [hn] at HN
        have hr3 : ¬ rk x = 3 := by have := HN.out; simpa using this
        generalize rk x = rx at *
        by_cases hb : b < 0
        · have hT : bestT l b k = true := by rw [HT.out, hn, decide_eq_true hb]; rfl
          go_wp2_with fail
          ((with_reducible refine (HK.out _).mono ?_); rintro e w9 ⟨rfl, rfl⟩)
          go_wp2
          go_roundw
          case rel => exact ⟨k + 1, by omega, by go_num, by rw [HST.out, if_pos hT], by repeat (first | exact Drawn0.refl _ | apply Drawn0.step)⟩
          case measure => simp [intOf]; omega
        · have hT : bestT l b k = decide (key (rdOf 0 l b) < key x) := by rw [HT.out, hn, decide_eq_false hb]; rfl
          have b0 : (0 : Int) ≤ b := by omega
          have b1 : b < n := by omega
          obtain ⟨ad2, e2, hd⟩ := at_fl HR.out b b0 b1
          cases e2
          generalize rdOf 0 l b = y at *
          go_wp2_with fail
          ((with_reducible refine (HK.out _).mono ?_); rintro e w9 ⟨rfl, rfl⟩)
          go_wp2_with fail
          ((with_reducible refine (rless_calls y x _ HB.out HX.out).mono ?_); rw [← hT]; rintro e w1 ⟨rfl, rfl⟩)
          cases hq : bestT l b k
          · go_wp2
            go_roundw
            case rel => exact ⟨k + 1, by omega, by go_num, by rw [HST.out, hq]; rfl, by repeat (first | exact Drawn0.refl _ | apply Drawn0.step)⟩
            case measure => simp [intOf]; omega
          · go_wp2
            go_roundw
            case rel => exact ⟨k + 1, by omega, by go_num, by rw [HST.out, hq]; rfl, by repeat (first | exact Drawn0.refl _ | apply Drawn0.step)⟩
            case measure => simp [intOf]; omega
      · rw [hn] at HN
        have hr3 : rk x = 3 := by have := HN.out; simpa using this
        rw [hr3] at HK
        have hT : bestT l b k = false := by rw [HT.out, hn]; rfl
        go_wp2_with fail
        ((with_reducible refine (HK.out _).mono ?_); rintro e w9 ⟨rfl, rfl⟩)
        go_wp2
        go_roundw
        case rel => exact ⟨k + 1, by omega, by go_num, by rw [HST.out, hT]; rfl, by repeat (first | exact Drawn0.refl _ | apply Drawn0.step)⟩
        case measure => simp [intOf]; omega
    · obtain rfl : k = n := by omega
      go_wp2
      go_ret
      exact ⟨by rw [HBE.out]; rfl, by repeat (first | exact Drawn0.refl _ | apply Drawn0.step)⟩
end Go.Proofs.YtolecdgpfflijaaDoor

