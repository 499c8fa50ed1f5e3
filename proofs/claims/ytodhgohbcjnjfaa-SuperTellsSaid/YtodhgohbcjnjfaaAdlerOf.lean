/- adler.Of tells the sum. -/
import Derived.Test.YtodhgohbcjnjfaaAdlerPure
namespace Go.Proofs.Ytodhgohbcjnjfaa
open Go.RowKit Go.Proofs.YtodhgohbcjnjfaaW.PrintWords Go.Proofs.YtodhgohbcjnjfaaW.PrintLast Go.Proofs.YtodhgohbcjnjfaaW.PrintMore
set_option linter.unusedVariables false
set_option maxHeartbeats 1000000 in
theorem of_calls (A : Option Addr) (nl c : Nat) (l : List Int) (w : World) (hr : RB w A nl l) (hb : Byt l) :
    Calls Try.prog 136 #[.slice A nl c] w fun e w' => e = .returned (.int .i64 (adler l)) ∧ Drawn0 w w' := by
  obtain rfl : l.length = nl := Kd.C_len hr
  have HR := Aside0.mk hr
  have hlen := Kd.C_max hr
  have HL := Aside0.mk hlen
  have HB := Aside0.mk hb
  clear hr hlen hb
  go_enter Try.func136, Try.ntmps136
  go_wp2
  go_loopw [3, 4, 9] (fun x y i w' => ∃ k : Nat, k ≤ l.length ∧ i = .int .i64 k ∧ x = .int .i64 (ad (l.take k)).1 ∧ y = .int .i64 (ad (l.take k)).2 ∧ Drawn0 w w') (fun _ _ i _ => l.length - (intOf i).toNat)
  case atStart => exact ⟨0, Nat.zero_le _, rfl, rfl, rfl, by repeat (first | exact Drawn0.refl _ | apply Drawn0.step)⟩
  case round =>
    obtain ⟨k, hk, rfl, rfl, rfl, ⟨m, rfl⟩⟩ := hrel
    have hlen := HL.out
    have hbd := ad_bd (l.take k)
    obtain ⟨⟨b1, b2⟩, b3, b4⟩ := hbd
    by_cases hlt : k < l.length
    · obtain ⟨r0, r1⟩ := HB.out.at_ k hlt
      have HS := Aside0.mk (ad_step l k hlt)
      obtain ⟨x, e1, hx⟩ := Kd.at_int HR.out k (by omega) (by omega)
      cases e1
      simp only [Int.toNat_natCast] at hx
      go_wp2
      go_roundw
      case rel => exact ⟨k + 1, by omega, by go_num, by rw [HS.out], by rw [HS.out], by repeat (first | exact Drawn0.refl _ | apply Drawn0.step)⟩
      case measure => simp [intOf]; omega
    · go_wp2
      go_ret
      obtain rfl : k = l.length := by omega
      exact ⟨by rw [List.take_length]; rfl, by repeat (first | exact Drawn0.refl _ | apply Drawn0.step)⟩
end Go.Proofs.Ytodhgohbcjnjfaa
