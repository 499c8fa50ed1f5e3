/- adler's of, Seal and Open: what they make, for rows of at most 2^47 - 4 bytes. -/
import Derived.Test.YtodhgohbcjnjfaaAdlerOf
import Derived.Test.YtodhgohbcjnjfaaConcat
namespace Go.Proofs.Ytodhgohbcjnjfaa
open Go.RowKit Go.Proofs.YtodhgohbcjnjfaaW.PrintWords Go.Proofs.YtodhgohbcjnjfaaW.PrintLast Go.Proofs.YtodhgohbcjnjfaaW.PrintMore
set_option linter.unusedVariables false
set_option linter.unusedSimpArgs false
set_option maxHeartbeats 1000000 in
theorem of4_calls (A : Option Addr) (nl c : Nat) (l : List Int) (w : World) (hr : RB w A nl l) (hb : Byt l) :
    Calls Try.prog 115 #[.slice A nl c] w fun e w' => ∃ v, e = .returned v ∧ OB w' w.heap.size v (be4 (adler l)) ∧ Below w.heap.size w w' := by
  obtain rfl : l.length = nl := Kd.C_len hr
  have HR := Aside0.mk hr
  have HY := Aside0.mk hb
  have n0 := (adler_bd l).1
  clear hr hb
  go_enter Try.func115, Try.ntmps115
  go_wp2_with (go_at_call 136; with_reducible refine (of_calls _ _ _ l _ HR.out HY.out).mono ?_; rintro e w1 ⟨rfl, ⟨m, rfl⟩⟩)
  go_ret
  exact ⟨_, rfl, OB_new (w.drewN m) w.heap.size (be4 (adler l)) (Nat.le_refl _) (by simp [be4]), below_alloc (pw_below_drewN (Below.refl _ _) m) _⟩
set_option maxHeartbeats 1000000 in
theorem seal_calls (A : Option Addr) (nl c : Nat) (l : List Int) (w : World) (hr : RB w A nl l) (hc : nl ≤ c) (hb : Byt l) (hn : nl ≤ 140737488355324) :
    Calls Try.prog 86 #[.slice A nl c] w fun e w' => ∃ v, e = .returned v ∧ OB w' w.heap.size v (sealed l) ∧ Below w.heap.size w w' := by
  obtain rfl : l.length = nl := Kd.C_len hr
  have HR := Aside0.mk hr
  have HY := Aside0.mk hb
  clear hr hb
  go_enter Try.func86, Try.ntmps86
  go_wp2_with (go_at_call 115; with_reducible refine (of4_calls _ _ _ l _ HR.out HY.out).mono ?_; rintro e w1 ⟨v1, rfl, ho1, hb1⟩; obtain ⟨A1, c1, rfl, hc1, hC1⟩ := Kd.R_reads ho1)
  have hC := C_new KBB (W := w1) (fz := (0, 0)) (e := 24) (xs := [be4 (adler l), l]) (inner := [.slice A1 (be4 (adler l)).length c1, .slice A l.length c]) (Reps.one ⟨A1, c1, rfl, hc1, hC1⟩ (Reps.one ⟨A, c, rfl, hc, Kd.C_below HR.out hb1⟩ (Reps.none _ _))) (by simp)
  have hl := concat_calls _ 2 2 [be4 (adler l), l] _ hC (by simp [be4]; omega)
  go_wp2_with (go_at_call 59; refine hl.mono ?_; rintro e w2 ⟨v2, rfl, ho2, hb2⟩)
  go_ret
  refine ⟨_, rfl, ?_, below_step (below_alloc hb1 _) hb2⟩
  have h3 : OB w2 w.heap.size v2 ([be4 (adler l), l].flatten) := Kd.R_lower ho2 (by have := hb1.size; simp; omega)
  simpa [sealed] using h3
end Go.Proofs.Ytodhgohbcjnjfaa
