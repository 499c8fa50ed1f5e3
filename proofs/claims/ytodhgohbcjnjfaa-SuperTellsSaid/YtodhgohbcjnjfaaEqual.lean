/- bytes.Equal: what it tells. -/
import Derived.Test.YtodhgohbcjnjfaaBase
namespace Go.Proofs.Ytodhgohbcjnjfaa
open Go.RowKit Go.Proofs.YtodhgohbcjnjfaaW.PrintWords Go.Proofs.YtodhgohbcjnjfaaW.PrintLast Go.Proofs.YtodhgohbcjnjfaaW.PrintMore
set_option linter.unusedVariables false
set_option linter.unusedSimpArgs false
set_option maxHeartbeats 1000000 in
theorem equal_calls (A : Option Addr) (nl c : Nat) (l : List Int) (A1 : Option Addr) (nl1 c1 : Nat) (l1 : List Int) (w : World) (hr : RB w A nl l) (hr1 : RB w A1 nl1 l1) (hb : Byt l) (hb1 : Byt l1) :
    Calls Try.prog 89 #[.slice A nl c, .slice A1 nl1 c1] w fun e w' => e = .returned (.bool (decide (l = l1))) ∧ w = w' := by
  obtain rfl : l.length = nl := Kd.C_len hr
  obtain rfl : l1.length = nl1 := Kd.C_len hr1
  have HI := Aside0.mk (strOfNums_inj hb hb1)
  have hcv3 := Kd.C_string (P := Try.prog) (c := c) Try.underlying24 Try.underlying5 Try.underlying9 hr
  have hcv4 := Kd.C_string (P := Try.prog) (c := c1) Try.underlying24 Try.underlying5 Try.underlying9 hr1
  clear hr hr1
  go_enter Try.func89, Try.ntmps89
  go_wp2
  go_ret
  exact ⟨by rw [← HI.out]; rfl, rfl⟩
end Go.Proofs.Ytodhgohbcjnjfaa
