/- florilegiumkeep's Within and Same[byte]: what they tell. -/
import Derived.Test.YtodhgohbcjnjfaaBase
namespace Go.Proofs.Ytodhgohbcjnjfaa
open Go.RowKit Go.Proofs.YtodhgohbcjnjfaaW.PrintWords Go.Proofs.YtodhgohbcjnjfaaW.PrintLast Go.Proofs.YtodhgohbcjnjfaaW.PrintMore
set_option linter.unusedVariables false
set_option linter.unusedSimpArgs false
/-- Any number as one from 0 to n - 1. -/
def wi (v n : Int) : Int := if n < 1 then 0 else v % n
theorem wi_bd (v n : Int) (h : 1 ≤ n) : 0 ≤ wi v n ∧ wi v n < n := by
  unfold wi
  rw [if_neg (by omega)]
  exact ⟨Int.emod_nonneg _ (by omega), Int.emod_lt_of_pos _ (by omega)⟩
theorem tmod_bd (v n : Int) (h : 1 ≤ n) : -n < v.tmod n ∧ v.tmod n < n := by
  have h1 := Int.tmod_lt_of_pos v (show 0 < n by omega)
  have h2 := Int.lt_tmod_of_pos v (show 0 < n by omega)
  omega
theorem tmod_neg (v n : Int) (h : 1 ≤ n) (h2 : v.tmod n < 0) : v.tmod n + n = v % n := by
  have h3 := tmod_bd v n h
  have h4 : (v.tmod n + n) % n = v % n := by
    rw [Int.add_emod_right]
    have := Int.tmod_add_mul_tdiv v n
    conv => rhs; rw [← this]
    rw [Int.add_mul_emod_self_left]
  rw [← h4, Int.emod_eq_of_lt (by omega) (by omega)]
theorem tmod_pos (v n : Int) (h : 1 ≤ n) (h2 : ¬ v.tmod n < 0) : v.tmod n = v % n := by
  have h3 := tmod_bd v n h
  have h4 : (v.tmod n) % n = v % n := by
    have := Int.tmod_add_mul_tdiv v n
    conv => rhs; rw [← this]
    rw [Int.add_mul_emod_self_left]
  rw [← h4, Int.emod_eq_of_lt (by omega) (by omega)]
theorem ret_int {k : IntKind} {a b : Int} (h : a = b) : Ending.returned (.int k a) = .returned (.int k b) := by rw [h]
theorem ret_bool {a b : Bool} (h : a = b) : Ending.returned (.bool a) = .returned (.bool b) := by rw [h]
set_option maxHeartbeats 1000000 in
theorem within_calls (v n : Int) (w : World) (hn : n ≤ 9223372036854775807) :
    Calls Try.prog 15 #[.int .i64 v, .int .i64 n] w fun e w' => e = .returned (.int .i64 (wi v n)) ∧ w = w' := by
  by_cases h1 : n < 1
  · have hw : wi v n = 0 := if_pos h1
    rw [hw]
    clear hw
    go_enter Try.func15, Try.ntmps15
    go_wp2
    go_ret
    exact ⟨rfl, rfl⟩
  · have hw : wi v n = v % n := if_neg h1
    rw [hw]
    clear hw
    have hz : (n == 0) = false := by simp; omega
    have hz' : ¬ n = 0 := by omega
    have hb := tmod_bd v n (by omega)
    obtain ⟨hb1, hb2⟩ := hb
    by_cases h2 : v.tmod n < 0
    · have HF := Aside0.mk (tmod_neg v n (by omega) h2)
      go_enter Try.func15, Try.ntmps15
      go_wp2
      go_ret
      exact ⟨ret_int HF.out, rfl⟩
    · have HF := Aside0.mk (tmod_pos v n (by omega) h2)
      go_enter Try.func15, Try.ntmps15
      go_wp2
      go_ret
      exact ⟨ret_int HF.out, rfl⟩
theorem eq_of_len_take {l m : List Int} (h : l.length = m.length) (ht : l.take l.length = m.take l.length) : l = m := by
  rw [List.take_length, h, List.take_length] at ht
  exact ht
theorem ne_of_rd {l m : List Int} (k : Nat) (h : rd l k ≠ rd m k) : l ≠ m := fun e => h (by rw [e])
set_option maxHeartbeats 2000000 in
theorem sameb_calls (A : Option Addr) (nl c : Nat) (l : List Int) (A1 : Option Addr) (nl1 c1 : Nat) (m : List Int) (w : World) (hr : RB w A nl l) (hr1 : RB w A1 nl1 m) :
    Calls Try.prog 16 #[.slice A nl c, .slice A1 nl1 c1] w fun e w' => e = .returned (.bool (decide (l = m))) ∧ Drawn0 w w' := by
  obtain rfl : l.length = nl := Kd.C_len hr
  obtain rfl : m.length = nl1 := Kd.C_len hr1
  have HR := Aside0.mk hr
  have HR1 := Aside0.mk hr1
  have HL := Aside0.mk (Kd.C_max hr)
  have HL1 := Aside0.mk (Kd.C_max hr1)
  clear hr hr1
  by_cases hl : l.length = m.length
  · have c3b0 : ((l.length : Int) == (m.length : Int)) = true := by simp [hl]
    have c3b1 : ((l.length : Int) != (m.length : Int)) = false := by simp [hl]
    have c3b2 : (l.length == m.length) = true := by simp [hl]
    have HE := Aside0.mk hl
    clear hl
    go_enter Try.func16, Try.ntmps16
    go_wp2
    repeat (go_quiet (fail); try go_wp2)
    clear c3b0 c3b1 c3b2
    go_loopw [5] (fun i w' => ∃ k : Nat, k ≤ l.length ∧ i = .int .i64 k ∧ Aside0 (l.take k = m.take k) ∧ Drawn0 w w') (fun i _ => l.length - (intOf i).toNat)
    case atStart => exact ⟨0, Nat.zero_le _, rfl, ⟨rfl⟩, by repeat (first | exact Drawn0.refl _ | apply Drawn0.step)⟩
    case round =>
      obtain ⟨k, hk, rfl, HT, ⟨d, rfl⟩⟩ := hrel
      have hlen := HL.out
      by_cases hlt : k < l.length
      · have hlt1 : k < m.length := by rw [← HE.out]; exact hlt
        obtain ⟨x, e1, hx⟩ := Kd.at_int HR.out k (by omega) (by omega)
        cases e1
        obtain ⟨x1, e2, hx1⟩ := Kd.at_int HR1.out k (by omega) (by omega)
        cases e2
        simp only [Int.toNat_natCast] at hx hx1
        have hlt' : decide ((k : Int) < (l.length : Int)) = true := by simp [hlt]
        have j0 : (0 : Int) ≤ (k : Int) := by omega
        have j1 : (k : Int) < (l.length : Int) := by omega
        have j2 : (k : Int) < (m.length : Int) := by omega
        have HS := Aside0.mk (take_snocI l k hlt)
        have HS1 := Aside0.mk (take_snocI m k hlt1)
        by_cases hq : rd l k = rd m k
        · have b0 : (rd l k == rd m k) = true := by simp [hq]
          have b1 : (rd l k != rd m k) = false := by simp [hq]
          have HQ := Aside0.mk hq
          clear hq
          generalize rd l k = u at *
          generalize rd m k = v at *
          go_wp2
          repeat (go_quiet (fail); try go_wp2)
          go_roundw
          case rel => exact ⟨k + 1, by omega, by go_num, ⟨by rw [HS.out, HS1.out, HT.out, HQ.out]⟩, by repeat (first | exact Drawn0.refl _ | apply Drawn0.step)⟩
          case measure => simp [intOf]; omega
        · have b0 : (rd l k == rd m k) = false := by simp [hq]
          have b1 : (rd l k != rd m k) = true := by simp [hq]
          have HQ := Aside0.mk (ne_of_rd k hq)
          clear hq
          generalize rd l k = u at *
          generalize rd m k = v at *
          go_wp2
          repeat (go_quiet (fail); try go_wp2)
          go_ret
          exact ⟨ret_bool (by rw [decide_eq_false HQ.out]), by repeat (first | exact Drawn0.refl _ | apply Drawn0.step)⟩
      · obtain rfl : k = l.length := by omega
        have hlt' : decide ((l.length : Int) < (l.length : Int)) = false := by simp
        go_wp2
        repeat (go_quiet (fail); try go_wp2)
        go_ret
        exact ⟨ret_bool (by rw [decide_eq_true (eq_of_len_take HE.out HT.out)]), by repeat (first | exact Drawn0.refl _ | apply Drawn0.step)⟩
  · have c3b0 : ((l.length : Int) == (m.length : Int)) = false := by simp; omega
    have c3b1 : ((l.length : Int) != (m.length : Int)) = true := by simp; omega
    have c3b2 : (l.length == m.length) = false := by simp [hl]
    have HE := Aside0.mk (show l ≠ m from fun e => hl (by rw [e]))
    clear hl
    go_enter Try.func16, Try.ntmps16
    go_wp2
    repeat (go_quiet (fail); try go_wp2)
    go_ret
    exact ⟨ret_bool (by rw [decide_eq_false HE.out]), by repeat (first | exact Drawn0.refl _ | apply Drawn0.step)⟩
end Go.Proofs.Ytodhgohbcjnjfaa
