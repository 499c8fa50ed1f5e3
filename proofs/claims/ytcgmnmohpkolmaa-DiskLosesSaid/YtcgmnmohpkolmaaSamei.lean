/- florilegiumkeep.Same[int]: what it tells. -/
import Derived.Test.YtcgmnmohpkolmaaKeep
namespace Go.Proofs.Ytcgmnmohpkolmaa
open Go.RowKit Go.Proofs.YtcgmnmohpkolmaaW.PrintWords Go.Proofs.YtcgmnmohpkolmaaW.PrintLast Go.Proofs.YtcgmnmohpkolmaaW.PrintMore
set_option linter.unusedVariables false
set_option linter.unusedSimpArgs false
/-- A row of ints that is read. -/
abbrev RI (w : World) (A : Option Addr) (n : Nat) (l : List Int) : Prop := Kd.C (Kd.int .i64) w A n l
set_option maxHeartbeats 2000000 in
theorem samei_calls (A : Option Addr) (nl c : Nat) (l : List Int) (A1 : Option Addr) (nl1 c1 : Nat) (m : List Int) (w : World) (hr : RI w A nl l) (hr1 : RI w A1 nl1 m) :
    Calls Try.prog 27 #[.slice A nl c, .slice A1 nl1 c1] w fun e w' => e = .returned (.bool (decide (l = m))) ∧ Drawn0 w w' := by
  obtain rfl : l.length = nl := Kd.C_len hr
  obtain rfl : m.length = nl1 := Kd.C_len hr1
  have HR := Aside0.mk hr
  have HR1 := Aside0.mk hr1
  have HL := Aside0.mk (Kd.C_max hr)
  have HL1 := Aside0.mk (Kd.C_max hr1)
  clear hr hr1
  by_cases hl : l.length = m.length
  · have c3b0 : ((l.length : Int) == (m.length : Int)) = true := by simp [hl]
    have c3b1 : ((l.length : Int) != (m.length : Int)) = false := by simp [hl]
    have c3b2 : (l.length == m.length) = true := by simp [hl]
    have HE := Aside0.mk hl
    clear hl
    go_enter Try.func27, Try.ntmps27
    go_wp2
    repeat (go_quiet (fail); try go_wp2)
    clear c3b0 c3b1 c3b2
    go_loopw [5] (fun i w' => ∃ k : Nat, k ≤ l.length ∧ i = .int .i64 k ∧ Aside0 (l.take k = m.take k) ∧ Drawn0 w w') (fun i _ => l.length - (intOf i).toNat)
    case atStart => exact ⟨0, Nat.zero_le _, rfl, ⟨rfl⟩, by repeat (first | exact Drawn0.refl _ | apply Drawn0.step)⟩
    case round =>
      obtain ⟨k, hk, rfl, HT, ⟨d, rfl⟩⟩ := hrel
      have hlen := HL.out
      by_cases hlt : k < l.length
      · have hlt1 : k < m.length := by rw [← HE.out]; exact hlt
        obtain ⟨x, e1, hx⟩ := Kd.at_int HR.out k (by omega) (by omega)
        cases e1
        obtain ⟨x1, e2, hx1⟩ := Kd.at_int HR1.out k (by omega) (by omega)
        cases e2
        simp only [Int.toNat_natCast] at hx hx1
        have hlt' : decide ((k : Int) < (l.length : Int)) = true := by simp [hlt]
        have j0 : (0 : Int) ≤ (k : Int) := by omega
        have j1 : (k : Int) < (l.length : Int) := by omega
        have j2 : (k : Int) < (m.length : Int) := by omega
        have HS := Aside0.mk (take_snocI l k hlt)
        have HS1 := Aside0.mk (take_snocI m k hlt1)
        by_cases hq : rd l k = rd m k
        · have b0 : (rd l k == rd m k) = true := by simp [hq]
          have b1 : (rd l k != rd m k) = false := by simp [hq]
          have HQ := Aside0.mk hq
          clear hq
          generalize rd l k = u at *
          generalize rd m k = v at *
          go_wp2
          repeat (go_quiet (fail); try go_wp2)
          go_roundw
          case rel => exact ⟨k + 1, by omega, by go_num, ⟨by rw [HS.out, HS1.out, HT.out, HQ.out]⟩, by repeat (first | exact Drawn0.refl _ | apply Drawn0.step)⟩
          case measure => simp [intOf]; omega
        · have b0 : (rd l k == rd m k) = false := by simp [hq]
          have b1 : (rd l k != rd m k) = true := by simp [hq]
          have HQ := Aside0.mk (ne_of_rd k hq)
          clear hq
          generalize rd l k = u at *
          generalize rd m k = v at *
          go_wp2
          repeat (go_quiet (fail); try go_wp2)
          go_ret
          exact ⟨ret_bool (by rw [decide_eq_false HQ.out]), by repeat (first | exact Drawn0.refl _ | apply Drawn0.step)⟩
      · obtain rfl : k = l.length := by omega
        have hlt' : decide ((l.length : Int) < (l.length : Int)) = false := by simp
        go_wp2
        repeat (go_quiet (fail); try go_wp2)
        go_ret
        exact ⟨ret_bool (by rw [decide_eq_true (eq_of_len_take HE.out HT.out)]), by repeat (first | exact Drawn0.refl _ | apply Drawn0.step)⟩
  · have c3b0 : ((l.length : Int) == (m.length : Int)) = false := by simp; omega
    have c3b1 : ((l.length : Int) != (m.length : Int)) = true := by simp; omega
    have c3b2 : (l.length == m.length) = false := by simp [hl]
    have HE := Aside0.mk (show l ≠ m from fun e => hl (by rw [e]))
    clear hl
    go_enter Try.func27, Try.ntmps27
    go_wp2
    repeat (go_quiet (fail); try go_wp2)
    go_ret
    exact ⟨ret_bool (by rw [decide_eq_false HE.out]), by repeat (first | exact Drawn0.refl _ | apply Drawn0.step)⟩
end Go.Proofs.Ytcgmnmohpkolmaa
