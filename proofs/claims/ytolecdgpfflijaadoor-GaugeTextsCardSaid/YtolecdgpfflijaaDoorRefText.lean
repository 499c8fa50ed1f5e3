/- ref01's Gauge: the same text as gauge's. -/
import Derived.Test.YtolecdgpfflijaaDoorRefDigits
namespace Go.Proofs.YtolecdgpfflijaaDoor
open Go.RowKit Go.Proofs.YtolecdgpfflijaaDoorW.PrintWords Go.Proofs.YtolecdgpfflijaaDoorW.PrintLast Go.Proofs.YtolecdgpfflijaaDoorW.PrintMore
set_option linter.unusedVariables false
set_option linter.unusedSimpArgs false
set_option maxRecDepth 1000000
/-- What the document says of a float. -/
def Tells (x : Nat) (D : ByteArray) : Prop := ∀ w : World, Calls Tryd.prog 21 #[.float .f64 x] w fun e w' => e = .returned (.string D) ∧ Below w.heap.size w w'
set_option maxHeartbeats 2000000 in
theorem gauge_nan (x : Nat) (h : nanB x = true) : Tells x ⟨#[110, 111, 110, 101]⟩ := fun w => by
  have HK := Aside0.mk (rank_calls x)
  rw [nan_rk h] at HK
  clear h
  go_enter Tryd.func21, Tryd.ntmps21
  go_wp2_with fail
  ((with_reducible refine (HK.out _).mono ?_); rintro e w1 ⟨rfl, rfl⟩)
  go_wp2
  go_ret
  exact ⟨rfl, Below.refl _ _⟩
set_option maxHeartbeats 2000000 in
theorem gauge_inf (x : Nat) (h : infB x = true) : Tells x (if sg x = true then ⟨#[45, 101, 110, 100, 108, 101, 115, 115]⟩ else ⟨#[101, 110, 100, 108, 101, 115, 115]⟩) := fun w => by
  have HK := Aside0.mk (rank_calls x)
  rw [inf_rk h] at HK
  clear h
  cases hs : sg x
  all_goals
    rw [hs] at HK
    go_enter Tryd.func21, Tryd.ntmps21
    go_wp2_with fail
    ((with_reducible refine (HK.out _).mono ?_); rintro e w1 ⟨rfl, rfl⟩)
    go_wp2
    go_ret
    exact ⟨rfl, Below.refl _ _⟩
theorem asm_text (P E1 E2 E3 : ByteArray) : P ++ E1 ++ ⟨#[46]⟩ ++ E2 ++ E3 = P ++ (((E1 ++ ⟨#[46]⟩) ++ E2) ++ E3) := by simp only [ByteArray.append_assoc]
/-- The float without its sign. -/
def absF (x : Nat) : Nat := if sg x = true then Op.negFloat .f64 x else x
/-- The sign's text. -/
def preF (s : Bool) : ByteArray := if s = true then ⟨#[45]⟩ else ⟨#[]⟩
set_option maxHeartbeats 4000000 in
theorem gauge_big (x : Nat) (hx : x < 18446744073709551616) (hn : nanB x = false) (hi : infB x = false) (hb : ge15 (absF x) = true) : Tells x (preF (sg x) ++ ⟨#[98, 105, 103]⟩) := fun w => by
  have HK := Aside0.mk (rank_calls x)
  rw [num_rk hn hi] at HK
  have HM := Aside0.mk (fun W => minus_calls x W hx)
  rw [show minus x = sg x from by unfold minus; rw [hn]; rfl] at HM
  have hng := run_neg (P := Tryd.prog) x w
  unfold absF at hb
  unfold ge15 at hb
  clear hn hi hx
  cases hs : sg x
  all_goals
    rw [hs] at HM hb
    simp only [if_true, Bool.false_eq_true, if_false] at hb
    go_enter Tryd.func21, Tryd.ntmps21
    go_wp2_with fail
    ((with_reducible refine (HK.out _).mono ?_); rintro e w1 ⟨rfl, rfl⟩)
    go_wp2_with fail
    ((with_reducible refine (HM.out _).mono ?_); rintro e w1 ⟨rfl, rfl⟩)
    go_wp2
    go_ret
    exact ⟨rfl, Below.refl _ _⟩
set_option maxHeartbeats 4000000 in
theorem gauge_num (x m : Nat) (N : Nat) (hx : x < 18446744073709551616) (hn : nanB x = false) (hi : infB x = false) (hb : ge15 (absF x) = false)
    (hm : floatBits .mul .f64 (absF x) 4636737291354636288 = some m) (hN : floatToIntVal .f64 m .i64 = some (N : Int)) (hl : N ≤ 288230376151711744) : Tells x (preF (sg x) ++ centsR N) := fun w => by
  have HK := Aside0.mk (rank_calls x)
  rw [num_rk hn hi] at HK
  have HM := Aside0.mk (fun W => minus_calls x W hx)
  rw [show minus x = sg x from by unfold minus; rw [hn]; rfl] at HM
  have hng := run_neg (P := Tryd.prog) x w
  have hmul := run_float_arith (P := Tryd.prog) w .mul 24 .f64 (absF x) 4636737291354636288 m hm
  have hcv := run_convert_float_int (P := Tryd.prog) w 24 3 .f64 .i64 m N (by kernel_rfl) Tryd.underlying3 hN
  have HC := Aside0.mk (show centsR N = ((dg (N / 100) ++ ⟨#[46]⟩) ++ dg (N / 10 % 10)) ++ dg (N % 10) from rfl)
  have s1 := dg_size (N / 100) (by omega)
  have s2 := dg_size (N / 10 % 10) (by omega)
  have s3 := dg_size (N % 10) (by omega)
  have D1 := Aside0.mk (rdigits_calls (N / 100) (by omega))
  have D2 := Aside0.mk (rdigits_calls (N / 10 % 10) (by omega))
  have D3 := Aside0.mk (rdigits_calls (N % 10) (by omega))
  unfold ge15 at hb
  unfold absF at hb hmul
  clear hn hi hx hm hN
  cases hs : sg x
  all_goals
    rw [hs] at HM hb hmul
    simp only [if_true, Bool.false_eq_true, if_false] at hb hmul
    go_enter Tryd.func21, Tryd.ntmps21
    go_wp2_with fail
    ((with_reducible refine (HK.out _).mono ?_); rintro e w1 ⟨rfl, rfl⟩)
    go_wp2_with fail
    ((with_reducible refine (HM.out _).mono ?_); rintro e w1 ⟨rfl, rfl⟩)
    go_wp2_with fail
    ((refine (D1.out _).mono ?_); rintro e w2 ⟨rfl, hb2⟩)
    generalize dg (N / 100) = E1 at *
    go_wp2_with fail
    ((refine (D2.out _).mono ?_); rintro e w3 ⟨rfl, hb3⟩)
    generalize dg (N / 10 % 10) = E2 at *
    go_wp2_with fail
    ((refine (D3.out _).mono ?_); rintro e w4 ⟨rfl, hb4⟩)
    generalize dg (N % 10) = E3 at *
    go_wp2
    go_ret
    exact ⟨by rw [HC.out]; exact congrArg (fun s => Ending.returned (.string s)) (asm_text _ E1 E2 E3), below_step (below_step hb2 hb3) hb4⟩
/-- What gauge says of a float. -/
def TextIs (x : Nat) (D : ByteArray) : Prop := ∀ w : World, Tens w → Calls Tryd.prog 13 #[.float .f64 x] w fun e w' => e = .returned (.string D) ∧ Below w.heap.size w w'
theorem same_below {e : Ending} {D : Ending} {w w' : World} (h : e = D ∧ w = w') : e = D ∧ Below w.heap.size w w' := ⟨h.1, by rw [← h.2]; exact Below.refl _ _⟩
theorem text_of {x : Nat} {D : ByteArray} (hx : x < 18446744073709551616) (hn : nanB x = false) (hi : infB x = false) (hs : D.size ≤ 1000) (h : Says (absF x) D) : TextIs x (preF (sg x) ++ D) := by
  unfold absF at h
  cases hg : sg x
  · rw [hg] at h
    intro w ht
    have := text_pos x D w hx hn hi hg h ht
    rw [show preF false ++ D = D from by apply ByteArray.ext; simp [preF]]
    exact this
  · rw [hg] at h
    intro w ht
    exact text_neg x D w hx hn hi hg h hs ht
theorem abs_num {x : Nat} (hx : x < 18446744073709551616) (hn : nanB x = false) : nanB (absF x) = false ∧ sg (absF x) = false := by
  unfold absF
  cases hg : sg x
  · exact ⟨hn, hg⟩
  · obtain ⟨_, h2, h3⟩ := neg_word x hx
    refine ⟨(nan_rg h2).trans hn, ?_⟩
    simp only [if_true]
    rw [h3, hg]
    rfl
theorem centsR_size (N : Nat) (h : N ≤ 288230376151711744) : (centsR N).size ≤ 1000 := by
  unfold centsR
  simp only [ByteArray.size_append]
  have s1 := dg_size (N / 100) (by omega)
  have s2 := dg_size (N / 10 % 10) (by omega)
  have s3 := dg_size (N % 10) (by omega)
  have s4 : (⟨#[46]⟩ : ByteArray).size = 1 := rfl
  omega
/-- Both say the same. -/
theorem same_text (x : Nat) (hx : x < 18446744073709551616) : ∃ D, TextIs x D ∧ Tells x D := by
  cases hn : nanB x
  · cases hi : infB x
    · obtain ⟨h1, h2⟩ := abs_num hx hn
      cases hb : ge15 (absF x)
      · obtain ⟨m, N, hm, hN, hl, hS⟩ := digits_says h1 h2 hb
        rw [cents_eq] at hS
        exact ⟨_, text_of hx hn hi (centsR_size N hl) hS, gauge_num x m N hx hn hi hb hm hN hl⟩
      · exact ⟨_, text_of hx hn hi (by decide) (fun w _ => (digits_big (absF x) w hb).mono fun e w' h => same_below h), gauge_big x hx hn hi hb⟩
    · exact ⟨_, fun w _ => (text_inf x w hx hi).mono fun e w' h => same_below h, gauge_inf x hi⟩
  · exact ⟨_, fun w _ => (text_nan x w hn).mono fun e w' h => same_below h, gauge_nan x hn⟩
set_option maxHeartbeats 2000000 in
theorem rshare_calls (p q : Int) (w : World) :
    Calls Tryd.prog 17 #[.int .i64 p, .int .i64 q] w fun e w' => ∃ r, e = .returned (.float .f64 r) ∧ r < 18446744073709551616 ∧ Comes (shareO p q) r ∧ Drawn0 w w' := by
  have HS := Aside0.mk (show shareO p q = if near40 p && near40 q then floatBits .quo .f64 (floatOfInt .f64 p) (floatOfInt .f64 q) else none from rfl)
  by_cases hin : (-1099511627776 ≤ p ∧ p ≤ 1099511627776) ∧ (-1099511627776 ≤ q ∧ q ≤ 1099511627776)
  · have e1 : near40 p = true := decide_eq_true hin.1
    have e2 : near40 q = true := decide_eq_true hin.2
    rw [e1, e2] at HS
    obtain ⟨r, n, hrun, hr, hc⟩ := run_float (P := Tryd.prog) .quo (.inr (.inr (.inr rfl))) 24 (floatOfInt .f64 p) (floatOfInt .f64 q) w
    have HC := Aside0.mk hc
    obtain ⟨⟨h1, h2⟩, h3, h4⟩ := hin
    clear hc e1 e2
    go_enter Tryd.func17, Tryd.ntmps17
    go_wp2
    go_ret
    exact ⟨_, rfl, hr, by rw [HS.out]; exact HC.out, ⟨⟨n, rfl⟩⟩⟩
  · have e1 : (near40 p && near40 q) = false := by
      unfold near40
      rw [Bool.and_eq_false_iff, decide_eq_false_iff_not, decide_eq_false_iff_not]
      by_cases h : -1099511627776 ≤ p ∧ p ≤ 1099511627776
      · exact .inr fun h' => hin ⟨h, h'⟩
      · exact .inl h
    rw [e1] at HS
    obtain ⟨r, n, hrun, hr, hc⟩ := run_float (P := Tryd.prog) .quo (.inr (.inr (.inr rfl))) 24 0 0 w
    have HC := Aside0.mk (show nanB r = true from by rw [show floatBits .quo .f64 0 0 = none from by decide +kernel] at hc; exact hc)
    clear hc e1
    by_cases h1 : p < -1099511627776
    · clear hin
      go_enter Tryd.func17, Tryd.ntmps17
      go_wp2
      go_ret
      exact ⟨_, rfl, hr, by rw [HS.out]; exact HC.out, ⟨⟨n, rfl⟩⟩⟩
    · by_cases h2 : 1099511627776 < p
      · clear hin
        go_enter Tryd.func17, Tryd.ntmps17
        go_wp2
        go_ret
        exact ⟨_, rfl, hr, by rw [HS.out]; exact HC.out, ⟨⟨n, rfl⟩⟩⟩
      · by_cases h3 : q < -1099511627776
        · clear hin
          go_enter Tryd.func17, Tryd.ntmps17
          go_wp2
          go_ret
          exact ⟨_, rfl, hr, by rw [HS.out]; exact HC.out, ⟨⟨n, rfl⟩⟩⟩
        · have h4 : 1099511627776 < q := by omega
          clear hin
          go_enter Tryd.func17, Tryd.ntmps17
          go_wp2
          go_ret
          exact ⟨_, rfl, hr, by rw [HS.out]; exact HC.out, ⟨⟨n, rfl⟩⟩⟩
set_option maxHeartbeats 2000000 in
theorem alike_calls (a b : Nat) (w : World) (ha : a < 18446744073709551616) (h : (nanB a = true ∧ nanB b = true) ∨ a = b) :
    Calls Tryd.prog 16 #[.float .f64 a, .float .f64 b] w fun e w' => e = .returned (.bool true) ∧ w = w' := by
  cases hn : nanB a
  · have h' : a = b := by
      rcases h with ⟨h1, _⟩ | h1
      · rw [hn] at h1; cases h1
      · exact h1
    subst h'
    have t1 := t_ne a
    have t2 := t_eq a
    rw [hn] at t1 t2
    have HM := Aside0.mk (fun W => minus_calls a W ha)
    generalize minus a = m at *
    have hmm : (m == m) = true := by simp
    clear h hn ha
    go_enter Tryd.func16, Tryd.ntmps16
    go_wp2_with fail
    ((with_reducible refine (HM.out _).mono ?_); rintro e w1 ⟨rfl, rfl⟩)
    go_wp2_with fail
    ((with_reducible refine (HM.out _).mono ?_); rintro e w1 ⟨rfl, rfl⟩)
    go_wp2
    go_ret
    exact ⟨rfl, rfl⟩
  · have hb : nanB b = true := by
      rcases h with ⟨_, h1⟩ | h1
      · exact h1
      · rw [← h1]; exact hn
    have t1 := t_ne a
    have t2 := t_ne b
    rw [hn] at t1
    rw [hb] at t2
    clear h hn hb ha
    go_enter Tryd.func16, Tryd.ntmps16
    go_wp2
    go_ret
    exact ⟨rfl, rfl⟩
end Go.Proofs.YtolecdgpfflijaaDoor
