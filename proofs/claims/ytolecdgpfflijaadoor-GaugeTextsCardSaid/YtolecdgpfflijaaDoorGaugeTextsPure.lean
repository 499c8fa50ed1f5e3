/- Shares of halves and quarters: exact. -/
import Derived.Test.YtolecdgpfflijaaDoorRefText
namespace Go.Proofs.YtolecdgpfflijaaDoor
open Ieee
open Go.RowKit Go.Proofs.YtolecdgpfflijaaDoorW.PrintWords Go.Proofs.YtolecdgpfflijaaDoorW.PrintLast Go.Proofs.YtolecdgpfflijaaDoorW.PrintMore
set_option linter.unusedVariables false
set_option linter.unusedSimpArgs false
/-- A whole number as a significand of 53 digits. -/
def sgn (N : Nat) : Nat := N * 2 ^ (52 - N.log2)
theorem sgn_bd {N : Nat} (h0 : N ≠ 0) (h : N < 9007199254740992) : N.log2 ≤ 52 ∧ 4503599627370496 ≤ sgn N ∧ sgn N < 9007199254740992 := by
  obtain ⟨b1, b2⟩ := log2_bd h0
  have hL : N.log2 ≤ 52 := by have := (Nat.log2_lt h0 (k := 53)).2 (by simpa using h); omega
  unfold sgn
  generalize N.log2 = L at *
  have hpow : 2 ^ L * 2 ^ (52 - L) = 4503599627370496 := by rw [← Nat.pow_add, show L + (52 - L) = 52 from by omega]
  have hp := Nat.pow_pos (n := 52 - L) (show 0 < 2 by omega)
  have q1 : 4503599627370496 ≤ N * 2 ^ (52 - L) := by rw [← hpow]; exact Nat.mul_le_mul_right _ b1
  have q2 : N * 2 ^ (52 - L) < 9007199254740992 := by
    have : N * 2 ^ (52 - L) < 2 ^ (L + 1) * 2 ^ (52 - L) := Nat.mul_lt_mul_of_pos_right b2 hp
    rw [Nat.pow_succ, Nat.mul_right_comm, hpow] at this
    omega
  exact ⟨hL, q1, q2⟩
/-- A whole number, written small, is written as it is. -/
theorem nearest_whole (s : Bool) (N m : Nat) (p : Int) (h0 : N ≠ 0) (h : N < 9007199254740992) (hp : p ≤ 0) (hp2 : p ≤ -52 ∨ m = N) (hm : m = N * 2 ^ (-p).toNat) :
    double.nearest s m p = double.word s ((1022 + N.log2) * 4503599627370496 + sgn N) := by
  obtain ⟨hL, q1, q2⟩ := sgn_bd h0 h
  have hpp := Nat.pow_pos (n := (-p).toNat) (show 0 < 2 by omega)
  have hm0 : m ≠ 0 := by rw [hm]; exact Nat.mul_ne_zero h0 (by omega)
  have hs : sgn N = N * 2 ^ (52 - N.log2) := rfl
  have hv : (-1074 + ((1022 + N.log2 : Nat) : Int) ≤ p ∧ sgn N = m * 2 ^ (p - (-1074 + ((1022 + N.log2 : Nat) : Int))).toNat) ∨ (p ≤ -1074 + ((1022 + N.log2 : Nat) : Int) ∧ m = sgn N * 2 ^ ((-1074 + ((1022 + N.log2 : Nat) : Int)) - p).toNat) := by
    generalize N.log2 = L at *
    rcases Int.le_total p (-1074 + ((1022 + L : Nat) : Int)) with hle | hle
    · refine .inr ⟨hle, ?_⟩
      rw [hs, Nat.mul_assoc, ← Nat.pow_add, hm]
      congr 2
      omega
    · refine .inl ⟨hle, ?_⟩
      rw [hm, hs, Nat.mul_assoc, ← Nat.pow_add]
      congr 2
      omega
  rw [nearest_exact s m p (sgn N) (1022 + N.log2) hm0 q2 (.inr q1) hv, Nat.min_eq_left (by omega)]
theorem tr_whole {N : Nat} (h0 : N ≠ 0) (h : N < 9007199254740992) : tr ((1022 + N.log2) * 4503599627370496 + sgn N) = N := by
  obtain ⟨hL, q1, q2⟩ := sgn_bd h0 h
  obtain ⟨p1, p2⟩ := rung_parts (1022 + N.log2) _ q1 q2
  have hp := Nat.pow_pos (n := 52 - N.log2) (show 0 < 2 by omega)
  unfold tr
  rw [p1, p2, show 1022 + N.log2 - 1074 = 0 from by omega, show 1074 - (1022 + N.log2) = 52 - N.log2 from by omega, Nat.pow_zero, Nat.mul_one]
  exact Nat.mul_div_cancel _ hp
/-- The rung of n over 2 ^ e. -/
def shR (n e : Nat) : Nat := (1022 + n.log2 - e) * 4503599627370496 + sgn n
theorem log2_le {n : Nat} (h : n < 100000) : n.log2 ≤ 16 := by
  by_cases h0 : n = 0
  · subst h0; decide
  · have := (Nat.log2_lt h0 (k := 17)).2 (by omega); omega
theorem shR_bd {n e : Nat} (h0 : n ≠ 0) (h : n < 100000) (he : e ≤ 2) : shR n e < 4831355200913801216 := by
  have := log2_le h
  obtain ⟨_, _, q2⟩ := sgn_bd h0 (by omega)
  unfold shR
  have h2 : (1022 + n.log2 - e) * 4503599627370496 ≤ 1038 * 4503599627370496 := Nat.mul_le_mul_right _ (by omega)
  omega
theorem toInt_float (s : Bool) (n : Nat) (h0 : n ≠ 0) (h : n < 100000) : floatOfInt .f64 (if s = true then -(n : Int) else n) = double.word s ((1022 + n.log2) * 4503599627370496 + sgn n) := by
  have e : floatOfInt .f64 (if s = true then -(n : Int) else n) = double.nearest s n 0 := by
    show double.write (.number (decide ((if s = true then -(n : Int) else n) < 0)) (if s = true then -(n : Int) else n).natAbs 0) = _
    have h1 : decide ((if s = true then -(n : Int) else n) < 0) = s := by
      cases s
      · exact decide_eq_false (by simp)
      · exact decide_eq_true (by simp; omega)
    have h2 : (if s = true then -(n : Int) else n).natAbs = n := by cases s <;> simp
    rw [h1, h2]
    simp only [Format.write]
  rw [e]
  exact nearest_whole s n n 0 h0 (by omega) (by omega) (.inr rfl) (by simp)
theorem read_pow (e : Nat) (he : e ≤ 2) : double.read (floatOfInt .f64 ((2 ^ e : Nat) : Int)) = .number false 4503599627370496 (-52 + (e : Int)) := by
  rcases (by omega : e = 0 ∨ e = 1 ∨ e = 2) with rfl | rfl | rfl <;> decide +kernel
theorem read_sh (s : Bool) (a q : Nat) (h1 : 4503599627370496 ≤ q) (h2 : q < 9007199254740992) (ha : a ≤ 2000) : double.read (double.word s (a * 4503599627370496 + q)) = .number s q (-1074 + (a : Int)) := by
  obtain ⟨p1, p2⟩ := rung_parts a q h1 h2
  have hr : a * 4503599627370496 + q < 9218868437227405312 := by
    have : a * 4503599627370496 ≤ 2000 * 4503599627370496 := Nat.mul_le_mul_right _ ha
    omega
  obtain ⟨e1, e2, e3⟩ := word_rg s (a * 4503599627370496 + q) (by omega)
  rw [read_num (by rw [e1]; exact hr), e1, e2, p1, p2]
theorem quo_exact (s : Bool) (q : Nat) (h1 : 4503599627370496 ≤ q) (h2 : q < 9007199254740992) (i j : Int) :
    (Datum.number s q i).quotient 54 (.number false 4503599627370496 j) = some (.number s (8 * q) (i - j - 55)) := by
  have hl : q.log2 = 52 := log2_of (by omega) (by omega)
  unfold Datum.quotient
  simp only [hl, show (4503599627370496 : Nat).log2 = 52 from by decide +kernel, show ¬ (4503599627370496 : Nat) = 0 from by omega, if_false]
  have hd : q <<< (54 + 52 - 52) = 4503599627370496 * (4 * q) := by rw [Nat.shiftLeft_eq]; omega
  rw [hd, Nat.mul_div_cancel_left _ (by omega), Nat.mul_mod_right]
  simp only [Bool.xor_false]
  refine congrArg some ?_
  rw [show 2 * (4 * q) + ((0 : Nat) != 0).toNat = 8 * q from by rw [show ((0 : Nat) != 0).toNat = 0 from rfl]; omega, show i - j - ((54 + 52 - 52 : Nat) : Int) - 1 = i - j - 55 from by omega]
theorem share_exact (s : Bool) (n e : Nat) (h0 : n ≠ 0) (h : n < 100000) (he : e ≤ 2) : shareO (if s = true then -(n : Int) else n) ((2 ^ e : Nat) : Int) = some (double.word s (shR n e)) := by
  have hL := log2_le h
  obtain ⟨_, q1, q2⟩ := sgn_bd h0 (by omega)
  have hn1 : near40 (if s = true then -(n : Int) else n) = true := decide_eq_true (by cases s <;> simp <;> omega)
  have hn2 : near40 ((2 ^ e : Nat) : Int) = true := by rcases (by omega : e = 0 ∨ e = 1 ∨ e = 2) with rfl | rfl | rfl <;> decide
  unfold shareO
  rw [hn1, hn2, toInt_float s n h0 h]
  show ((double.read (double.word s ((1022 + n.log2) * 4503599627370496 + sgn n))).quotient 54 (double.read (floatOfInt .f64 ((2 ^ e : Nat) : Int)))).map double.write = _
  rw [read_sh s _ _ q1 q2 (by omega), read_pow e he, quo_exact s _ q1 q2]
  simp only [Option.map_some, Format.write]
  refine congrArg some ?_
  have hshr : shR n e = (1022 + n.log2 - e) * 4503599627370496 + sgn n := rfl
  have hb := shR_bd h0 h he
  rw [nearest_exact s (8 * sgn n) _ (sgn n) (1022 + n.log2 - e) (by omega) q2 (.inr q1) (.inr ⟨by omega, by
    rw [show (-1074 + ((1022 + n.log2 - e : Nat) : Int) - (-1074 + ((1022 + n.log2 : Nat) : Int) - (-52 + (e : Int)) - 55)).toNat = 3 from by omega]
    omega⟩), ← hshr, Nat.min_eq_left (by omega)]
theorem ge15_lt {b : Nat} (hn : nanB b = false) (hs : sg b = false) (h : rg b < 4831355200913801216) : ge15 b = false := by
  unfold ge15
  rw [Bool.or_eq_false_iff, t_gt, t_eqv, hn, show nanB 4831355200913801216 = false from by decide]
  simp only [Bool.not_false, Bool.true_and, decide_eq_false_iff_not]
  constructor
  · rw [vl_lt, show sg 4831355200913801216 = false from by decide, show rg 4831355200913801216 = 4831355200913801216 from by decide, hs]
    simp
    omega
  · rw [vl_eq, show sg 4831355200913801216 = false from by decide, show rg 4831355200913801216 = 4831355200913801216 from by decide, hs]
    simp
    omega
theorem mul_turn (n z a c : Nat) (h : a = 25 * c) : n * z * a = 25 * n * (z * c) := by
  subst h
  simp only [Nat.mul_assoc, Nat.mul_left_comm, Nat.mul_comm]
theorem says_share (n e : Nat) (h0 : n ≠ 0) (h : n < 100000) (he : e ≤ 2) : Says (double.word false (shR n e)) (centsR (n * 100 / 2 ^ e)) := by
  have hb := shR_bd h0 h he
  have hL := log2_le h
  obtain ⟨_, q1, q2⟩ := sgn_bd h0 (by omega)
  obtain ⟨e1, e2, e3⟩ := word_rg false (shR n e) (by omega)
  have hn : nanB (double.word false (shR n e)) = false := decide_eq_false (by rw [e1]; omega)
  obtain ⟨m, N, hm, hN, hl, hS⟩ := digits_says hn e2 (ge15_lt hn e2 (by rw [e1]; exact hb))
  obtain ⟨M, hM⟩ : ∃ M, M = n * 100 / 2 ^ e := ⟨_, rfl⟩
  have hM0 : M ≠ 0 ∧ M < 10000001 ∧ M = 25 * n * 2 ^ (2 - e) := by
    rcases (by omega : e = 0 ∨ e = 1 ∨ e = 2) with rfl | rfl | rfl
    · rw [show (2 : Nat) ^ 0 = 1 from rfl] at hM
      rw [show (2 : Nat) ^ (2 - 0) = 4 from rfl]
      omega
    · rw [show (2 : Nat) ^ 1 = 2 from rfl] at hM
      rw [show (2 : Nat) ^ (2 - 1) = 2 from rfl]
      omega
    · rw [show (2 : Nat) ^ 2 = 4 from rfl] at hM
      rw [show (2 : Nat) ^ (2 - 2) = 1 from rfl]
      omega
  have hm2 : floatBits .mul .f64 (double.word false (shR n e)) 4636737291354636288 = some (double.word false ((1022 + M.log2) * 4503599627370496 + sgn M)) := by
    show ((double.read (double.word false ((1022 + n.log2 - e) * 4503599627370496 + sgn n))).product (double.read 4636737291354636288)).map double.write = _
    rw [read_hundred, read_sh false _ _ q1 q2 (by omega)]
    simp only [Datum.product, Option.map_some, Format.write, Bool.xor_false]
    refine congrArg some ?_
    refine nearest_whole false M _ _ hM0.1 (by omega) (by omega) (.inl (by omega)) ?_
    rw [hM0.2.2]
    have hs : sgn n = n * 2 ^ (52 - n.log2) := rfl
    rw [hs]
    generalize n.log2 = L at *
    rw [show (-(-1074 + ((1022 + L - e : Nat) : Int) + -46)).toNat = 98 + e - L from by omega]
    rw [Nat.mul_assoc (25 * n), ← Nat.pow_add, show 2 - e + (98 + e - L) = (52 - L) + 48 from by omega, Nat.pow_add, show (2 : Nat) ^ 48 = 281474976710656 from rfl]
    generalize 2 ^ (52 - L) = z
    exact mul_turn n z 7036874417766400 281474976710656 (by decide)
  have hmm : m = double.word false ((1022 + M.log2) * 4503599627370496 + sgn M) := Option.some.inj (hm.symm.trans hm2)
  have hMl : M.log2 ≤ 52 := (sgn_bd hM0.1 (by omega)).1
  have ht := tr_whole hM0.1 (show M < 9007199254740992 by omega)
  have hNM : floatToIntVal .f64 m .i64 = some (M : Int) := by
    rw [hmm]
    have := toIntVal_tr (R := (1022 + M.log2) * 4503599627370496 + sgn M) (by
      have := (sgn_bd hM0.1 (show M < 9007199254740992 by omega)).2.2
      have h2 : (1022 + M.log2) * 4503599627370496 ≤ 1074 * 4503599627370496 := Nat.mul_le_mul_right _ (by omega)
      omega) (by rw [ht]; omega)
    rw [ht] at this
    exact this
  have hNe : N = M := by
    have := Option.some.inj (hN.symm.trans hNM)
    omega
  rw [cents_eq, hNe, hM] at hS
  exact hS
theorem word_of {b r : Nat} (h : b < 18446744073709551616) (hr : rg b = r) (hs : sg b = !true) : b = double.word false r := by
  have e : double.word false r = r := if_neg (by decide)
  rw [e]
  unfold rg at hr
  unfold sg at hs
  have : ¬ b / 9223372036854775808 % 2 = 1 := by simpa using hs
  omega
theorem abs_word (s : Bool) (r : Nat) (hr : r ≤ 9218868437227405312) : absF (double.word s r) = double.word false r := by
  obtain ⟨e1, e2, e3⟩ := word_rg s r hr
  cases s
  · unfold absF
    exact if_neg (by rw [e2]; decide)
  · obtain ⟨f1, f2, f3⟩ := neg_word (double.word true r) e3
    have h := word_of f1 (f2.trans e1) (by rw [f3, e2])
    unfold absF
    exact (if_pos e2).trans h
/-- A share's text. -/
theorem text_share (s : Bool) (n e : Nat) (h0 : n ≠ 0) (h : n < 100000) (he : e ≤ 2) : TextIs (double.word s (shR n e)) (preF s ++ centsR (n * 100 / 2 ^ e)) := by
  have hb := shR_bd h0 h he
  obtain ⟨e1, e2, e3⟩ := word_rg s (shR n e) (by omega)
  have hn : nanB (double.word s (shR n e)) = false := decide_eq_false (by rw [e1]; omega)
  have hi : infB (double.word s (shR n e)) = false := decide_eq_false (by rw [e1]; omega)
  have hab := abs_word s (shR n e) (by omega)
  have hS := says_share n e h0 h he
  rw [← hab] at hS
  have hp : 2 ^ e ≤ 4 := by rcases (by omega : e = 0 ∨ e = 1 ∨ e = 2) with rfl | rfl | rfl <;> decide
  have := text_of e3 hn hi (centsR_size _ (by have := Nat.div_le_self (n * 100) (2 ^ e); omega)) hS
  rw [e2] at this
  exact this
end Go.Proofs.YtolecdgpfflijaaDoor
