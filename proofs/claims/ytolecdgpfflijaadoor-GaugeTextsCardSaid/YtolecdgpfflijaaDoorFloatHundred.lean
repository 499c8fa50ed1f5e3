/- A hundred times a double: no more than it may be. -/
import Derived.Test.YtolecdgpfflijaaDoorFloatFloor
import Derived.Test.YtolecdgpfflijaaDoorGaugeText
namespace Go.Proofs.YtolecdgpfflijaaDoor
open Ieee
open Go.RowKit Go.Proofs.YtolecdgpfflijaaDoorW.PrintWords Go.Proofs.YtolecdgpfflijaaDoorW.PrintLast Go.Proofs.YtolecdgpfflijaaDoorW.PrintMore
set_option linter.unusedVariables false
set_option linter.unusedSimpArgs false
theorem cut_le (s : Bool) (n d : Nat) : Toward.even.cut s n d ≤ n / 2 ^ min d (n.log2 + 2) + 1 := by
  have hg : (1 : Nat) <<< min d (n.log2 + 2) = 2 ^ min d (n.log2 + 2) := by rw [Nat.shiftLeft_eq, Nat.one_mul]
  unfold Toward.cut
  simp only [hg]
  exact Nat.add_le_add_left (Bool.toNat_le _) _
theorem cut_bd (s : Bool) (n d : Nat) (h : n.log2 ≤ d + 52) : Toward.even.cut s n d ≤ 9007199254740992 := by
  have h1 := cut_le s n d
  have h2 : n < 2 ^ (n.log2 + 1) := Nat.lt_log2_self
  have h3 : n / 2 ^ min d (n.log2 + 2) < 9007199254740992 := by
    refine Nat.div_lt_of_lt_mul ?_
    have h4 : 2 ^ (n.log2 + 1) ≤ 2 ^ (min d (n.log2 + 2) + 53) := two_le_pow (by omega)
    have h5 : 2 ^ (min d (n.log2 + 2) + 53) = 2 ^ min d (n.log2 + 2) * 9007199254740992 := Nat.pow_add 2 _ 53
    omega
  omega
/-- What is below 2 ^ 57 is written below 2 ^ 58. -/
theorem nearest_bd (m : Nat) (p : Int) (hm : m ≠ 0) (h : p + (m.log2 : Int) ≤ 56) : ∃ R, R ≤ 4863887597560135680 ∧ double.nearest false m p = double.word false R := by
  unfold Format.nearest
  rw [if_neg hm]
  simp only [show ((double.fractionBits : Nat) : Int) = 52 from rfl, show double.leastPlace = -1074 from rfl, show double.binade = 4503599627370496 from rfl, show double.infRung = 9218868437227405312 from rfl]
  obtain ⟨last, hl⟩ : ∃ last, last = max (p + (m.log2 : Int) - 52) (-1074) := ⟨_, rfl⟩
  rw [← hl]
  have hk : Toward.even.cut false (m <<< (p - last).toNat) (last - p).toNat ≤ 9007199254740992 := by
    refine cut_bd _ _ _ ?_
    rw [Nat.shiftLeft_eq]
    have e : (m * 2 ^ (p - last).toNat).log2 = m.log2 + (p - last).toNat := by
      obtain ⟨b1, b2⟩ := log2_bd hm
      generalize (p - last).toNat = k
      have hp := Nat.pow_pos (n := k) (show 0 < 2 by omega)
      refine log2_of ?_ ?_
      · rw [Nat.pow_add]; exact Nat.mul_le_mul_right _ b1
      · rw [show m.log2 + k + 1 = (m.log2 + 1) + k from by omega, Nat.pow_add]; exact Nat.mul_lt_mul_of_pos_right b2 hp
    rw [e]
    omega
  refine ⟨_, ?_, rfl⟩
  have : (last - -1074).toNat ≤ 1078 := by omega
  have h2 : (last - -1074).toNat * 4503599627370496 ≤ 1078 * 4503599627370496 := Nat.mul_le_mul_right _ this
  omega
theorem read_hundred : double.read 4636737291354636288 = .number false 7036874417766400 (-46) := rfl
theorem tr_bd {R : Nat} (h : R ≤ 4863887597560135680) : tr R ≤ 288230376151711744 := by
  have hp : pl R ≤ 1079 := by unfold pl; split <;> omega
  have hm := mg_lt R
  unfold tr
  refine Nat.le_trans (Nat.div_le_self _ _) ?_
  have h1 : 2 ^ (pl R - 1074) ≤ 2 ^ 5 := two_le_pow (by omega)
  have e : (2 : Nat) ^ 5 = 32 := rfl
  rw [e] at h1
  exact Nat.le_trans (Nat.mul_le_mul (Nat.le_of_lt hm) h1) (by decide)
/-- A hundred times what is below a thousand billions. -/
theorem mul_hundred {b : Nat} (h : rg b < 4831355200913801216) (hs : sg b = false) : ∃ R, R ≤ 4863887597560135680 ∧ floatBits .mul .f64 b 4636737291354636288 = some (double.word false R) := by
  have e : floatBits .mul .f64 b 4636737291354636288 = some (double.nearest false (mg (rg b) * 7036874417766400) (-1074 + (pl (rg b) : Int) + -46)) := by
    show ((double.read b).product (double.read 4636737291354636288)).map double.write = _
    rw [read_hundred, read_num (by omega), hs]
    simp only [Datum.product, Option.map_some, Format.write, Bool.xor_false]
  rw [e]
  by_cases h0 : mg (rg b) = 0
  · refine ⟨0, by omega, ?_⟩
    rw [h0, Nat.zero_mul]
    refine congrArg some ?_
    unfold Format.nearest
    exact if_pos (Eq.refl 0)
  · have hm := mg_lt (rg b)
    have hne : mg (rg b) * 7036874417766400 ≠ 0 := Nat.mul_ne_zero h0 (by omega)
    have hl : (mg (rg b) * 7036874417766400).log2 ≤ 105 := by
      have : mg (rg b) * 7036874417766400 < 2 ^ 106 := by
        have := Nat.mul_lt_mul_of_pos_right hm (show 0 < 7036874417766400 by omega)
        exact Nat.lt_trans this (by decide)
      have := (Nat.log2_lt hne (k := 106)).2 this
      omega
    have hp : pl (rg b) ≤ 1071 := by unfold pl; split <;> omega
    obtain ⟨R, h1, h2⟩ := nearest_bd (mg (rg b) * 7036874417766400) (-1074 + (pl (rg b) : Int) + -46) hne (by omega)
    exact ⟨R, h1, by rw [h2]⟩
theorem ge15_not {b : Nat} (hn : nanB b = false) (hs : sg b = false) (h : ge15 b = false) : rg b < 4831355200913801216 := by
  unfold ge15 at h
  rw [Bool.or_eq_false_iff, t_gt, t_eqv, hn, show nanB 4831355200913801216 = false from by decide] at h
  simp only [Bool.not_false, Bool.true_and, decide_eq_false_iff_not] at h
  obtain ⟨h1, h2⟩ := h
  rw [vl_lt] at h1
  rw [vl_eq] at h2
  rw [show sg 4831355200913801216 = false from by decide, show rg 4831355200913801216 = 4831355200913801216 from by decide, hs] at h1 h2
  simp at h1 h2
  omega
theorem toIntVal_tr {R : Nat} (h : R < 9218868437227405312) (ht : tr R ≤ 288230376151711744) : floatToIntVal .f64 (double.word false R) .i64 = some (tr R : Int) := by
  obtain ⟨e1, e2, e3⟩ := word_rg false R (by omega)
  have h1 : (FloatKind.f64.decode (double.word false R)).toInt .zero = some (tr R : Int) := by
    have := toInt_num (b := double.word false R) (by rw [e1]; exact h) e2
    rw [e1] at this
    exact this
  unfold floatToIntVal
  rw [h1]
  simp only
  rw [if_pos ⟨by rw [show IntKind.i64.min = -9223372036854775808 from rfl]; omega, by rw [show IntKind.i64.max = 9223372036854775807 from rfl]; omega⟩]
/-- What gauge's digits say, and what the document's conversion gives, of a number from 0 on. -/
theorem digits_says {b : Nat} (hn : nanB b = false) (hs : sg b = false) (h : ge15 b = false) :
    ∃ (m : Nat) (N : Nat), floatBits .mul .f64 b 4636737291354636288 = some m ∧ floatToIntVal .f64 m .i64 = some (N : Int) ∧ N ≤ 288230376151711744 ∧ Says b (cents N) := by
  obtain ⟨R, hR, hm⟩ := mul_hundred (ge15_not hn hs h) hs
  have ht := tr_bd hR
  obtain ⟨R2, hR2, hw, ht2⟩ := enc_tr (r := R) (by omega)
  obtain ⟨e1, e2, e3⟩ := word_rg false R (by omega)
  have hf : FloatKind.f64.encode ((FloatKind.f64.decode (double.word false R)).integral .down) = double.word false R2 := by
    show double.write ((double.read (double.word false R)).integral .down) = _
    rw [integral_num .down (.inl rfl) (by rw [e1]; omega) e2, e1]
    exact hw
  refine ⟨double.word false R, tr R, hm, toIntVal_tr (by omega) ht, ht, fun w hT => ?_⟩
  refine digits_num b (double.word false R) (double.word false R2) (tr R) w h hm ?_ hf ?_ (by omega) (by omega) hT
  · unfold nanB
    rw [e1]
    exact decide_eq_false (by omega)
  · rw [← ht2]
    exact toIntVal_tr hR2 (by omega)
end Go.Proofs.YtolecdgpfflijaaDoor
