/- florilegiumlaw18's wakes. -/
import Derived.Test.YtodhgohbcjnjfaaSuperPick
import Derived.Test.YtodhgohbcjnjfaaDiskNew
namespace Go.Proofs.Ytodhgohbcjnjfaa
open Go.RowKit Go.Proofs.YtodhgohbcjnjfaaW.PrintWords Go.Proofs.YtodhgohbcjnjfaaW.PrintLast Go.Proofs.YtodhgohbcjnjfaaW.PrintMore
set_option linter.unusedVariables false
set_option linter.unusedSimpArgs false
set_option maxRecDepth 100000
theorem wk18_pick : (pick fun k => (newDS 8).read 8 k).2 = (false, true) := by decide +kernel
theorem wk18_may : (⟨1, 0, 0, 0, 0⟩ : Sup).may = true := by decide +kernel
set_option maxHeartbeats 4000000 in
theorem wakes18_calls (w : World) : Calls Try.prog 33 #[] w fun e w' => e = .returned (.bool true) ∧ Below w.heap.size w w' := by
  go_enter Try.func33, Try.ntmps33
  go_wp2_with fail
  refine (new_calls 8 8 rfl _ (by omega) (by omega)).mono ?_
  rintro e w1 ⟨a, rfl, h1, ha, hb1⟩
  have H1 := Aside0.mk h1
  have HB1 := Aside0.mk hb1
  clear h1 hb1 ha
  go_wp2_with fail
  refine (pick_calls a 8 (newDS 8) _ H1.out (by omega)).mono ?_
  rw [wk18_pick]
  rintro e w2 ⟨rfl, hb2⟩
  have HB2 := Aside0.mk (below_step HB1.out hb2)
  clear hb2
  unfold Sup.val
  go_wp2_with fail
  refine (pack_calls ⟨1, 0, 0, 0, 0⟩ _).mono ?_
  rw [wk18_may]
  rintro e w3 ⟨v, rfl, ho3, hb3⟩
  obtain ⟨A3, c3, rfl, _, _⟩ := OB_reads ho3
  rw [pack_ok wk18_may, packed_length]
  have HB3 := Aside0.mk hb3
  clear ho3 hb3
  go_wp2
  go_ret
  exact ⟨rfl, below_step (below_alloc HB2.out _) HB3.out⟩
end Go.Proofs.Ytodhgohbcjnjfaa
