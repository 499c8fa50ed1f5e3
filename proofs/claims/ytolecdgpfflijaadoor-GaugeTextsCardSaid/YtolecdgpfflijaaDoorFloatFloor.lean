/- The whole part of a double, and its double. -/
import Derived.Test.YtolecdgpfflijaaDoorFloatTwo
namespace Go.Proofs.YtolecdgpfflijaaDoor
open Ieee
set_option linter.unusedVariables false
set_option linter.unusedSimpArgs false
/-- Downwards, of a number that is not below 0: a division. -/
theorem cut_floor (way : Toward) (hw : way = .down ∨ way = .zero) (n d : Nat) : way.cut false n d = n / 2 ^ d := by
  have hg : (1 : Nat) <<< min d (n.log2 + 2) = 2 ^ min d (n.log2 + 2) := by rw [Nat.shiftLeft_eq, Nat.one_mul]
  have hm : way.cut false n d = n / 2 ^ min d (n.log2 + 2) := by
    rcases hw with rfl | rfl <;> simp [Toward.cut, hg]
  rw [hm]
  by_cases h : d ≤ n.log2 + 2
  · rw [Nat.min_eq_left h]
  · rw [Nat.min_eq_right (by omega)]
    have h1 : n < 2 ^ (n.log2 + 1) := Nat.lt_log2_self
    have h2 : 2 ^ (n.log2 + 1) ≤ 2 ^ (n.log2 + 2) := two_le_pow (by omega)
    have h3 : 2 ^ (n.log2 + 1) ≤ 2 ^ d := two_le_pow (by omega)
    rw [Nat.div_eq_of_lt (by omega), Nat.div_eq_of_lt (by omega)]
/-- The whole part of a finite rung. -/
def tr (r : Nat) : Nat := (mg r * 2 ^ (pl r - 1074)) / 2 ^ (1074 - pl r)
theorem integral_num {b : Nat} (way : Toward) (hw : way = .down ∨ way = .zero) (h : rg b < 9218868437227405312) (hs : sg b = false) : (double.read b).integral way = .number false (tr (rg b)) 0 := by
  rw [read_num h, hs]
  unfold tr
  show Datum.number false (way.cut false (mg (rg b) <<< (-1074 + (pl (rg b) : Int)).toNat) (-(-1074 + (pl (rg b) : Int))).toNat) 0 = _
  rw [cut_floor way hw, Nat.shiftLeft_eq]
  rw [show (-1074 + (pl (rg b) : Int)).toNat = pl (rg b) - 1074 from by omega, show (-(-1074 + (pl (rg b) : Int))).toNat = 1074 - pl (rg b) from by omega]
theorem toInt_num {b : Nat} (h : rg b < 9218868437227405312) (hs : sg b = false) : (double.read b).toInt .zero = some (tr (rg b) : Int) := by
  unfold Datum.toInt
  rw [integral_num .zero (.inr rfl) h hs]
  simp [signed]
/-- A rung put together. -/
theorem rung_parts (a q : Nat) (h1 : 4503599627370496 ≤ q) (h2 : q < 9007199254740992) : mg (a * 4503599627370496 + q) = q ∧ pl (a * 4503599627370496 + q) = a := by
  unfold mg pl
  rw [if_neg (by omega), if_neg (by omega)]
  omega
theorem enc_small (N : Nat) (h0 : N ≠ 0) (h : N < 9007199254740992) : ∃ R, R < 9218868437227405312 ∧ double.nearest false N 0 = double.word false R ∧ tr R = N := by
  obtain ⟨b1, b2⟩ := log2_bd h0
  have hL : N.log2 ≤ 52 := by have := (Nat.log2_lt h0 (k := 53)).2 (by simpa using h); omega
  generalize hl : N.log2 = L at *
  have hpow : 2 ^ L * 2 ^ (52 - L) = 4503599627370496 := by rw [← Nat.pow_add, show L + (52 - L) = 52 from by omega]
  have hp := Nat.pow_pos (n := 52 - L) (show 0 < 2 by omega)
  have q1 : 4503599627370496 ≤ N * 2 ^ (52 - L) := by rw [← hpow]; exact Nat.mul_le_mul_right _ b1
  have q2 : N * 2 ^ (52 - L) < 9007199254740992 := by
    have : N * 2 ^ (52 - L) < 2 ^ (L + 1) * 2 ^ (52 - L) := Nat.mul_lt_mul_of_pos_right b2 hp
    rw [Nat.pow_succ, Nat.mul_right_comm, hpow] at this
    omega
  obtain ⟨p1, p2⟩ := rung_parts (1022 + L) _ q1 q2
  refine ⟨(1022 + L) * 4503599627370496 + N * 2 ^ (52 - L), by omega, ?_, ?_⟩
  · rw [nearest_exact false N 0 (N * 2 ^ (52 - L)) (1022 + L) h0 q2 (.inr q1) (.inl ⟨by omega, by rw [show (0 - (-1074 + ((1022 + L : Nat) : Int))).toNat = 52 - L from by omega]⟩)]
    rw [Nat.min_eq_left (by omega)]
  · unfold tr
    rw [p1, p2, show 1022 + L - 1074 = 0 from by omega, show 1074 - (1022 + L) = 52 - L from by omega, Nat.pow_zero, Nat.mul_one]
    exact Nat.mul_div_cancel _ hp
theorem mg_norm {r : Nat} (h : pl r ≠ 0) : 4503599627370496 ≤ mg r ∧ r = pl r * 4503599627370496 + mg r := by
  unfold pl mg at *
  split at h
  · omega
  · rename_i h1
    rw [if_neg h1, if_neg h1]
    omega
/-- The double of the whole part has the same whole part. -/
theorem enc_tr {r : Nat} (h : r < 9218868437227405312) : ∃ R, R < 9218868437227405312 ∧ double.nearest false (tr r) 0 = double.word false R ∧ tr R = tr r := by
  by_cases h0 : tr r = 0
  · refine ⟨0, by omega, ?_, ?_⟩
    · rw [h0]
      unfold Format.nearest
      exact if_pos rfl
    · rw [h0]
      unfold tr
      rw [show mg 0 = 0 from if_pos (by omega), Nat.zero_mul, Nat.zero_div]
  · by_cases hp : 1074 ≤ pl r
    · obtain ⟨m1, m2⟩ := mg_norm (r := r) (by omega)
      have ht : tr r = mg r * 2 ^ (pl r - 1074) := by
        unfold tr
        rw [show 1074 - pl r = 0 from by omega, Nat.pow_zero, Nat.div_one]
      refine ⟨r, h, ?_, rfl⟩
      have hpp := Nat.pow_pos (n := pl r - 1074) (show 0 < 2 by omega)
      rw [nearest_exact false (tr r) 0 (mg r) (pl r) h0 (mg_lt r) (.inr m1) (.inr ⟨by omega, by rw [ht, show (-1074 + (pl r : Int) - 0).toNat = pl r - 1074 from by omega]⟩), ← m2, Nat.min_eq_left (by omega)]
    · refine enc_small (tr r) h0 ?_
      unfold tr
      rw [show pl r - 1074 = 0 from by omega, Nat.pow_zero, Nat.mul_one]
      exact Nat.lt_of_le_of_lt (Nat.div_le_self _ _) (mg_lt r)
end Go.Proofs.YtolecdgpfflijaaDoor
