/- florilegiumkeep's Cut[byte] and adler's example. -/
import Derived.Test.YtodhgohbcjnjfaaKeep
import Derived.Test.YtodhgohbcjnjfaaCopyb
namespace Go.Proofs.Ytodhgohbcjnjfaa
open Go.RowKit Go.Proofs.YtodhgohbcjnjfaaW.PrintWords Go.Proofs.YtodhgohbcjnjfaaW.PrintLast Go.Proofs.YtodhgohbcjnjfaaW.PrintMore
set_option linter.unusedVariables false
set_option linter.unusedSimpArgs false
set_option maxHeartbeats 1000000 in
theorem cutb_calls (A : Option Addr) (nl c : Nat) (l : List Int) (n : Nat) (ni : Int) (hni : ni = n) (w : World) (hr : RB w A nl l) (hc : nl ≤ c) (hn : n ≤ 65536) :
    Calls Try.prog 30 #[.slice A nl c, .int .i64 ni] w fun e w' => ∃ v, e = .returned v ∧ OB w' w.heap.size v (l.take n) ∧ Below w.heap.size w w' := by
  obtain rfl : l.length = nl := Kd.C_len hr
  by_cases hl : l.length ≤ n
  · obtain ⟨hcu, hC⟩ := cut_to (P := Try.prog) 24 5 Try.underlying24 infoB hr hc l.length l.length rfl (Nat.le_refl _)
    rw [List.take_length] at hC
    have hm : min (l.length : Int) ni = l.length := by omega
    have HC := Aside0.mk hC
    have HT := Aside0.mk (List.take_of_length_le hl)
    have hlb : (l.length : Int) ≤ 9223372036854775807 := by have := Kd.C_max hr; omega
    clear hr hC
    go_enter Try.func30, Try.ntmps30
    go_wp2_with (go_at_call 21; with_reducible refine (copyb_calls _ _ _ l _ HC.out (by omega)).mono ?_; rintro e w1 ⟨v1, rfl, ho1, hb1⟩)
    go_ret
    exact ⟨v1, rfl, by rw [HT.out]; exact ho1, hb1⟩
  · obtain ⟨hcu, hC⟩ := cut_to (P := Try.prog) 24 5 Try.underlying24 infoB hr hc n ni hni (by omega)
    have hm : min (l.length : Int) ni = ni := by omega
    have hlt : (l.take n).length = n := by rw [List.length_take]; omega
    have k1 := Aside0.mk (copyb_calls A _ c (l.take n) w hC (by omega))
    rw [hlt] at k1
    clear hr hC
    go_enter Try.func30, Try.ntmps30
    go_wp2_with (go_at_call 21; with_reducible refine k1.out.mono ?_; rintro e w1 ⟨v1, rfl, ho1, hb1⟩)
    go_ret
    exact ⟨v1, rfl, ho1, hb1⟩
end Go.Proofs.Ytodhgohbcjnjfaa
