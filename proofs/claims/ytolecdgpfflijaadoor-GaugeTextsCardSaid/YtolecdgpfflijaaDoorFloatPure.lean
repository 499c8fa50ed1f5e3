/- Doubles by their words: a word's key, and that the order of two words is the order of their keys (no program). -/
import Ieee.Arith
import Derived.Laws.FloatBits
namespace Go.Proofs.YtolecdgpfflijaaDoor
open Ieee
set_option linter.unusedVariables false
set_option linter.unusedSimpArgs false
/-- The rung and the sign of a word. -/
def rg (b : Nat) : Nat := b % 9223372036854775808
def sg (b : Nat) : Bool := b / 9223372036854775808 % 2 == 1
def nanB (b : Nat) : Bool := decide (9218868437227405312 < rg b)
def infB (b : Nat) : Bool := decide (rg b = 9218868437227405312)
/-- A rung's magnitude, in the least units. -/
def uv (r : Nat) : Nat := if r < 4503599627370496 then r else (4503599627370496 + r % 4503599627370496) * 2 ^ (r / 4503599627370496 - 1)
theorem two_le_pow {a b : Nat} (h : a ≤ b) : 2 ^ a ≤ 2 ^ b := Nat.pow_le_pow_right (by omega) h
theorem uv_lt {r s : Nat} (h : r < s) : uv r < uv s := by
  unfold uv
  by_cases hs : s < 4503599627370496
  · rw [if_pos hs, if_pos (by omega)]
    exact h
  · rw [if_neg hs]
    have hp : 1 ≤ 2 ^ (s / 4503599627370496 - 1) := Nat.one_le_two_pow
    by_cases hr : r < 4503599627370496
    · rw [if_pos hr]
      calc r < 4503599627370496 + s % 4503599627370496 := by omega
        _ ≤ (4503599627370496 + s % 4503599627370496) * 2 ^ (s / 4503599627370496 - 1) := Nat.le_mul_of_pos_right _ hp
    · rw [if_neg hr]
      by_cases he : r / 4503599627370496 = s / 4503599627370496
      · rw [he]
        exact Nat.mul_lt_mul_of_pos_right (by omega) hp
      · have he' : r / 4503599627370496 < s / 4503599627370496 := by omega
        have hq : 2 ^ (r / 4503599627370496 - 1) * 2 ≤ 2 ^ (s / 4503599627370496 - 1) := by
          rw [← Nat.pow_succ]
          exact two_le_pow (by omega)
        have hp' : 1 ≤ 2 ^ (r / 4503599627370496 - 1) := Nat.one_le_two_pow
        calc (4503599627370496 + r % 4503599627370496) * 2 ^ (r / 4503599627370496 - 1)
            < (4503599627370496 * 2) * 2 ^ (r / 4503599627370496 - 1) := Nat.mul_lt_mul_of_pos_right (by omega) hp'
          _ = 4503599627370496 * (2 ^ (r / 4503599627370496 - 1) * 2) := by rw [Nat.mul_assoc, Nat.mul_comm 2]
          _ ≤ 4503599627370496 * 2 ^ (s / 4503599627370496 - 1) := Nat.mul_le_mul_left _ hq
          _ ≤ (4503599627370496 + s % 4503599627370496) * 2 ^ (s / 4503599627370496 - 1) := Nat.mul_le_mul_right _ (by omega)
theorem uv_zero : uv 0 = 0 := rfl
theorem uv_inj {r s : Nat} (h : uv r = uv s) : r = s := by
  rcases Nat.lt_trichotomy r s with h1 | h1 | h1
  · have := uv_lt h1; omega
  · exact h1
  · have := uv_lt h1; omega
theorem uv_pos {r : Nat} (h : 0 < r) : 0 < uv r := by have := uv_lt h; rw [uv_zero] at this; exact this
/-- What a word stands for. -/
theorem read_nan {b : Nat} (h : nanB b = true) : double.read b = .nan (sg b) (rg b - 9218868437227405312) := by
  have h' := of_decide_eq_true h
  unfold Format.read
  simp only [show double.signWeight = 9223372036854775808 from rfl, show double.binade = 4503599627370496 from rfl, show double.infRung = 9218868437227405312 from rfl]
  unfold rg at h' ⊢
  rw [if_neg (by omega), if_neg (by omega), if_neg (by omega)]
  rfl
theorem read_inf {b : Nat} (h : infB b = true) : double.read b = .infinity (sg b) := by
  have h' := of_decide_eq_true h
  unfold Format.read
  simp only [show double.signWeight = 9223372036854775808 from rfl, show double.binade = 4503599627370496 from rfl, show double.infRung = 9218868437227405312 from rfl]
  unfold rg at h'
  rw [if_neg (by omega), if_neg (by omega), if_pos (by omega)]
  rfl
/-- The magnitude and the place of a finite rung. -/
def mg (r : Nat) : Nat := if r < 4503599627370496 then r else 4503599627370496 + r % 4503599627370496
def pl (r : Nat) : Nat := if r < 4503599627370496 then 0 else r / 4503599627370496 - 1
theorem uv_eq (r : Nat) : uv r = mg r * 2 ^ pl r := by
  unfold uv mg pl
  split <;> simp
theorem read_num {b : Nat} (h : rg b < 9218868437227405312) : double.read b = .number (sg b) (mg (rg b)) (-1074 + (pl (rg b) : Int)) := by
  unfold Format.read
  simp only [show double.signWeight = 9223372036854775808 from rfl, show double.binade = 4503599627370496 from rfl, show double.infRung = 9218868437227405312 from rfl, show double.leastPlace = -1074 from rfl]
  unfold rg at *
  unfold mg pl
  split
  · simp
    rfl
  · rfl
theorem mg_lt (r : Nat) : mg r < 9007199254740992 := by unfold mg; split <;> omega
/-- A signed magnitude. -/
def sv (s : Bool) (m : Nat) : Int := if s then -(m : Int) else m
theorem signed_eq (s : Bool) (m up : Nat) : signed s m up = sv s (m * 2 ^ up) := by
  unfold signed sv
  rw [Nat.shiftLeft_eq]
theorem sv_mul (s : Bool) (m k : Nat) : sv s (m * k) = sv s m * (k : Int) := by
  unfold sv
  split
  · rw [Int.natCast_mul, Int.neg_mul]
  · rw [Int.natCast_mul]
theorem compare_mul (a b : Int) (k : Nat) (hk : 0 < k) : compare (a * (k : Int)) (b * (k : Int)) = compare a b := by
  have hk' : (0 : Int) < (k : Int) := by omega
  rcases Int.lt_trichotomy a b with h | h | h
  · have h2 := Int.mul_lt_mul_of_pos_right h hk'
    rw [Int.compare_eq_lt.2 h, Int.compare_eq_lt.2 h2]
  · subst h
    rw [Int.compare_eq_eq.2 rfl, Int.compare_eq_eq.2 rfl]
  · have h2 := Int.mul_lt_mul_of_pos_right h hk'
    rw [Int.compare_eq_gt.2 h, Int.compare_eq_gt.2 h2]
theorem order_num (s t : Bool) (m n i j : Nat) : Datum.order (.number s m (-1074 + (i : Int))) (.number t n (-1074 + (j : Int))) = some (compare (sv s (m * 2 ^ i)) (sv t (n * 2 ^ j))) := by
  simp only [Datum.order]
  congr 1
  rw [signed_eq, signed_eq]
  rcases Nat.le_total i j with h | h
  · rw [show min (-1074 + (i : Int)) (-1074 + (j : Int)) = -1074 + (i : Int) from by omega]
    rw [show (-1074 + (i : Int) - (-1074 + (i : Int))).toNat = 0 from by omega, show (-1074 + (j : Int) - (-1074 + (i : Int))).toNat = j - i from by omega]
    rw [← compare_mul _ _ (2 ^ i) Nat.one_le_two_pow, ← sv_mul, ← sv_mul, Nat.pow_zero, Nat.mul_one, Nat.mul_assoc, ← Nat.pow_add, show j - i + i = j from by omega]
  · rw [show min (-1074 + (i : Int)) (-1074 + (j : Int)) = -1074 + (j : Int) from by omega]
    rw [show (-1074 + (j : Int) - (-1074 + (j : Int))).toNat = 0 from by omega, show (-1074 + (i : Int) - (-1074 + (j : Int))).toNat = i - j from by omega]
    rw [← compare_mul _ _ (2 ^ j) Nat.one_le_two_pow, ← sv_mul, ← sv_mul, Nat.pow_zero, Nat.mul_one, Nat.mul_assoc, ← Nat.pow_add, show i - j + j = i from by omega]
/-- A word's value, in the least units; infinity beyond all. -/
def vl (b : Nat) : Int := sv (sg b) (uv (rg b))
theorem order_of {a b : Nat} (ha : nanB a = false) (hb : nanB b = false) : double.order a b = some (compare (vl a) (vl b)) := by
  have ha' := of_decide_eq_false ha
  have hb' := of_decide_eq_false hb
  have hbig : uv 9218868437227405312 > 0 := uv_pos (by omega)
  unfold Format.order
  by_cases ia : infB a = true
  · have ea := of_decide_eq_true ia
    rw [read_inf ia]
    by_cases ib : infB b = true
    · have eb := of_decide_eq_true ib
      rw [read_inf ib]
      simp only [Datum.order]
      congr 1
      unfold vl sv
      rw [ea, eb]
      generalize uv 9218868437227405312 = U at *
      cases sg a <;> cases sg b <;> simp only [if_true, if_false, Bool.false_eq_true]
      · rw [Int.compare_eq_eq.2 rfl]; rfl
      · rw [Int.compare_eq_gt.2 (by omega)]; rfl
      · rw [Int.compare_eq_lt.2 (by omega)]; rfl
      · rw [Int.compare_eq_eq.2 rfl]; rfl
    · have eb := of_decide_eq_false (by simpa using ib : infB b = false)
      rw [read_num (by omega)]
      simp only [Datum.order]
      congr 1
      have hl : uv (rg b) < uv (rg a) := uv_lt (by omega)
      unfold vl sv
      generalize uv (rg a) = U at *
      generalize uv (rg b) = V at *
      cases sg a <;> cases sg b <;> simp only [if_true, if_false, Bool.false_eq_true] <;> symm <;> first | (apply Int.compare_eq_lt.2; omega) | (apply Int.compare_eq_gt.2; omega)
  · have ea := of_decide_eq_false (by simpa using ia : infB a = false)
    rw [read_num (by omega)]
    by_cases ib : infB b = true
    · have eb := of_decide_eq_true ib
      rw [read_inf ib]
      simp only [Datum.order]
      congr 1
      have hl : uv (rg a) < uv (rg b) := uv_lt (by omega)
      unfold vl sv
      generalize uv (rg a) = U at *
      generalize uv (rg b) = V at *
      cases sg a <;> cases sg b <;> simp only [if_true, if_false, Bool.false_eq_true] <;> symm <;> first | (apply Int.compare_eq_lt.2; omega) | (apply Int.compare_eq_gt.2; omega)
    · have eb := of_decide_eq_false (by simpa using ib : infB b = false)
      rw [read_num (by omega), order_num]
      unfold vl
      rw [uv_eq, uv_eq]
theorem order_nan_l {a b : Nat} (ha : nanB a = true) : double.order a b = none := by
  unfold Format.order
  rw [read_nan ha]
  cases double.read b <;> rfl
theorem order_nan_r {a b : Nat} (hb : nanB b = true) : double.order a b = none := by
  unfold Format.order
  rw [read_nan hb]
  cases double.read a <;> rfl
/-- Where a share stands: none behind all. -/
def key (b : Nat) : Int := if nanB b = true then 9223372036854775808 else if sg b = true then -(rg b : Int) - 1 else rg b
/-- The five tests on floats. -/
def fEq (a b : Nat) : Bool := double.order a b == some .eq
def fLt (a b : Nat) : Bool := double.order a b == some .lt
theorem fEq_self (a : Nat) : fEq a a = !nanB a := by
  unfold fEq
  cases h : nanB a
  · rw [order_of h h, Int.compare_eq_eq.2 rfl]
    rfl
  · rw [order_nan_l h]
    rfl
theorem vl_lt {a b : Nat} : vl a < vl b ↔ (sg a = true ∧ sg b = true ∧ rg b < rg a) ∨ (sg a = false ∧ sg b = false ∧ rg a < rg b) ∨ (sg a = true ∧ sg b = false ∧ ¬ (rg a = 0 ∧ rg b = 0)) := by
  have h1 : ∀ r s, uv r < uv s ↔ r < s := fun r s => ⟨fun h => by
    rcases Nat.lt_trichotomy r s with k | k | k
    · exact k
    · subst k; omega
    · have := uv_lt k; omega, uv_lt⟩
  have h0 : ∀ r, uv r = 0 ↔ r = 0 := fun r => ⟨fun h => uv_inj (by rw [h, uv_zero]), fun h => by rw [h, uv_zero]⟩
  have ha := h0 (rg a)
  have hb := h0 (rg b)
  have hab := h1 (rg a) (rg b)
  have hba := h1 (rg b) (rg a)
  unfold vl sv
  generalize uv (rg a) = U at *
  generalize uv (rg b) = V at *
  cases sg a <;> cases sg b <;> simp <;> omega
theorem vl_eq {a b : Nat} : vl a = vl b ↔ (sg a = sg b ∧ rg a = rg b) ∨ (rg a = 0 ∧ rg b = 0) := by
  have h0 : ∀ r, uv r = 0 ↔ r = 0 := fun r => ⟨fun h => uv_inj (by rw [h, uv_zero]), fun h => by rw [h, uv_zero]⟩
  have ha := h0 (rg a)
  have hb := h0 (rg b)
  have hab : uv (rg a) = uv (rg b) ↔ rg a = rg b := ⟨uv_inj, fun h => by rw [h]⟩
  unfold vl sv
  generalize uv (rg a) = U at *
  generalize uv (rg b) = V at *
  cases sg a <;> cases sg b <;> simp <;> omega
end Go.Proofs.YtolecdgpfflijaaDoor
