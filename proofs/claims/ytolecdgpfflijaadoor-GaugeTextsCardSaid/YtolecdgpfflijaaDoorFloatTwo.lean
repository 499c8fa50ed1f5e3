/- Twice a double. -/
import Derived.Test.YtolecdgpfflijaaDoorFloatRun
namespace Go.Proofs.YtolecdgpfflijaaDoor
open Ieee
set_option linter.unusedVariables false
set_option linter.unusedSimpArgs false
theorem log2_of {n k : Nat} (h1 : 2 ^ k ≤ n) (h2 : n < 2 ^ (k + 1)) : n.log2 = k := by
  have hn : n ≠ 0 := by have := Nat.pow_pos (n := k) (show 0 < 2 by omega); omega
  have a := (Nat.le_log2 hn).2 h1
  have b := (Nat.log2_lt hn).2 h2
  omega
theorem log2_bd {n : Nat} (hn : n ≠ 0) : 2 ^ n.log2 ≤ n ∧ n < 2 ^ (n.log2 + 1) := ⟨Nat.log2_self_le hn, Nat.lt_log2_self⟩
/-- Where nothing is dropped the cut is a division. -/
theorem cut_even (s : Bool) (n q d : Nat) (hn : n ≠ 0) (h : n = q * 2 ^ d) : Toward.even.cut s n d = q := by
  have hd : d ≤ n.log2 := by
    refine (Nat.le_log2 hn).2 ?_
    rw [h]
    exact Nat.le_mul_of_pos_left _ (by rcases q with _ | q; · simp at h; omega
                                       · omega)
  have hp := Nat.pow_pos (n := d) (show 0 < 2 by omega)
  have hg : (1 : Nat) <<< min d (n.log2 + 2) = 2 ^ d := by rw [Nat.min_eq_left (by omega), Nat.shiftLeft_eq, Nat.one_mul]
  unfold Toward.cut
  simp only [hg]
  rw [show n / 2 ^ d = q from by rw [h]; exact Nat.mul_div_cancel _ hp, show n % 2 ^ d = 0 from by rw [h]; exact Nat.mul_mod_left _ _]
  have e1 : decide (2 ^ d < 2 * 0) = false := decide_eq_false (by omega)
  have e2 : (2 ^ d == 2 * 0) = false := by simp
  rw [e1, e2]
  rfl
/-- A number that the format has is written as it is: V = q * 2 ^ a, in units of the least place. -/
theorem nearest_exact (s : Bool) (m : Nat) (p : Int) (q a : Nat) (hm : m ≠ 0) (hq : q < 9007199254740992) (ha : a = 0 ∨ 4503599627370496 ≤ q)
    (hv : (-1074 + (a : Int) ≤ p ∧ q = m * 2 ^ (p - (-1074 + (a : Int))).toNat) ∨ (p ≤ -1074 + (a : Int) ∧ m = q * 2 ^ ((-1074 + (a : Int)) - p).toNat)) :
    double.nearest s m p = double.word s (min (a * 4503599627370496 + q) 9218868437227405312) := by
  obtain ⟨b1, b2⟩ := log2_bd hm
  have hlast : max (p + (m.log2 : Int) - 52) (-1074) = -1074 + (a : Int) := by
    have hL : (-1074 + (a : Int) ≤ p ∧ q.log2 = m.log2 + (p - (-1074 + (a : Int))).toNat ∧ q ≠ 0) ∨ (p ≤ -1074 + (a : Int) ∧ m.log2 = q.log2 + ((-1074 + (a : Int)) - p).toNat ∧ q ≠ 0) := by
      rcases hv with ⟨h1, h2⟩ | ⟨h1, h2⟩
      · refine .inl ⟨h1, ?_, ?_⟩
        · generalize (p - (-1074 + (a : Int))).toNat = k at *
          have hp := Nat.pow_pos (n := k) (show 0 < 2 by omega)
          refine log2_of ?_ ?_
          · rw [h2, Nat.pow_add]; exact Nat.mul_le_mul_right _ b1
          · rw [h2, show m.log2 + k + 1 = (m.log2 + 1) + k from by omega, Nat.pow_add]; exact Nat.mul_lt_mul_of_pos_right b2 hp
        · generalize (p - (-1074 + (a : Int))).toNat = k at *
          have hp := Nat.pow_pos (n := k) (show 0 < 2 by omega)
          rw [h2]
          exact Nat.mul_ne_zero hm (by omega)
      · have hq0 : q ≠ 0 := fun e => hm (by rw [h2, e, Nat.zero_mul])
        refine .inr ⟨h1, ?_, hq0⟩
        obtain ⟨c1, c2⟩ := log2_bd hq0
        generalize ((-1074 + (a : Int)) - p).toNat = k at *
        have hp := Nat.pow_pos (n := k) (show 0 < 2 by omega)
        refine log2_of ?_ ?_
        · rw [h2, Nat.pow_add]; exact Nat.mul_le_mul_right _ c1
        · rw [h2, show q.log2 + k + 1 = (q.log2 + 1) + k from by omega, Nat.pow_add]; exact Nat.mul_lt_mul_of_pos_right c2 hp
    have hq0 : q ≠ 0 := by rcases hL with h | h <;> exact h.2.2
    have hle : q.log2 ≤ 52 := by have := (Nat.log2_lt hq0 (k := 53)).2 (by simpa using hq); omega
    have hge : a = 0 ∨ 52 ≤ q.log2 := ha.imp id fun h => (Nat.le_log2 hq0 (k := 52)).2 (by simpa using h)
    omega
  unfold Format.nearest
  rw [if_neg hm]
  simp only [show ((double.fractionBits : Nat) : Int) = 52 from rfl, show double.leastPlace = -1074 from rfl, show double.binade = 4503599627370496 from rfl, show double.infRung = 9218868437227405312 from rfl, hlast]
  rw [show (-1074 + (a : Int) - -1074).toNat = a from by omega]
  congr 3
  rcases hv with ⟨h1, h2⟩ | ⟨h1, h2⟩
  · rw [show (-1074 + (a : Int) - p).toNat = 0 from by omega, Nat.shiftLeft_eq]
    refine cut_even s _ _ 0 ?_ (by rw [h2]; simp)
    have hp := Nat.pow_pos (n := (p - (-1074 + (a : Int))).toNat) (show 0 < 2 by omega)
    exact Nat.mul_ne_zero hm (by omega)
  · rw [show (p - (-1074 + (a : Int))).toNat = 0 from by omega, Nat.shiftLeft_eq, Nat.pow_zero, Nat.mul_one]
    exact cut_even s _ _ _ hm h2
/-- Twice a rung. -/
def dbl (r : Nat) : Nat := if r < 4503599627370496 then 2 * r else min (r + 4503599627370496) 9218868437227405312
theorem dbl_eq {r : Nat} (h : r ≤ 9218868437227405312) : dbl r = r ↔ r = 0 ∨ r = 9218868437227405312 := by
  unfold dbl
  split <;> omega
theorem read_two : double.read 4611686018427387904 = .number false 4503599627370496 (-51) := rfl
theorem nearest_two (s : Bool) (r : Nat) (hr : r < 9218868437227405312) : double.nearest s (4503599627370496 * mg r) (-51 + (-1074 + (pl r : Int))) = double.word s (dbl r) := by
  by_cases h0 : r = 0
  · subst h0
    rw [show mg 0 = 0 from if_pos (by omega), show dbl 0 = 0 from if_pos (by omega)]
    unfold Format.nearest
    exact if_pos (by omega)
  · unfold dbl
    by_cases h1 : r < 4503599627370496
    · have e1 : mg r = r := if_pos h1
      have e2 : pl r = 0 := if_pos h1
      rw [e1, e2, if_pos h1, nearest_exact s (4503599627370496 * r) (-51 + (-1074 + ((0 : Nat) : Int))) (2 * r) 0 (by omega) (by omega) (.inl rfl) (.inr ⟨by omega, by
        rw [show (-1074 + ((0 : Nat) : Int) - (-51 + (-1074 + ((0 : Nat) : Int)))).toNat = 51 from by omega]
        omega⟩)]
      rw [show min (0 * 4503599627370496 + 2 * r) 9218868437227405312 = 2 * r from by omega]
    · have e1 : mg r = 4503599627370496 + r % 4503599627370496 := if_neg h1
      have e2 : pl r = r / 4503599627370496 - 1 := if_neg h1
      have hq : mg r < 9007199254740992 := mg_lt r
      have hge : 4503599627370496 ≤ mg r := by rw [e1]; omega
      have hrr : r = pl r * 4503599627370496 + mg r := by rw [e1, e2]; omega
      rw [if_neg h1, nearest_exact s (4503599627370496 * mg r) (-51 + (-1074 + (pl r : Int))) (mg r) (pl r + 1) (by omega) hq (.inr hge) (.inr ⟨by omega, by
        rw [show (-1074 + ((pl r + 1 : Nat) : Int) - (-51 + (-1074 + (pl r : Int)))).toNat = 52 from by omega]
        omega⟩)]
      rw [show min ((pl r + 1) * 4503599627370496 + mg r) 9218868437227405312 = min (r + 4503599627370496) 9218868437227405312 from by omega]
theorem mul_two {x : Nat} (h : nanB x = false) : floatBits .mul .f64 4611686018427387904 x = some (double.word (sg x) (dbl (rg x))) := by
  show ((double.read 4611686018427387904).product (double.read x)).map double.write = _
  have h' := of_decide_eq_false h
  by_cases hi : rg x = 9218868437227405312
  · rw [read_two, read_inf (decide_eq_true hi), hi]
    simp [Datum.product, Format.write, dbl]
    rfl
  · have hr : rg x < 9218868437227405312 := by omega
    rw [read_two, read_num hr]
    simp only [Datum.product, Option.map_some, Format.write, Bool.false_xor]
    rw [nearest_two _ _ hr]
theorem dbl_le {r : Nat} (h : r ≤ 9218868437227405312) : dbl r ≤ 9218868437227405312 := by unfold dbl; split <;> omega
theorem word_rg (s : Bool) (r : Nat) (h : r ≤ 9218868437227405312) : rg (double.word s r) = r ∧ sg (double.word s r) = s ∧ double.word s r < 18446744073709551616 := by
  unfold Format.word rg sg
  rw [show double.signWeight = 9223372036854775808 from rfl]
  cases s
  · simp only [Bool.false_eq_true, if_false]
    refine ⟨by omega, ?_, by omega⟩
    rw [show r / 9223372036854775808 = 0 from by omega]
    rfl
  · simp only [if_true]
    refine ⟨by omega, ?_, by omega⟩
    rw [show (9223372036854775808 + r) / 9223372036854775808 = 1 from by omega]
    rfl
end Go.Proofs.YtolecdgpfflijaaDoor
