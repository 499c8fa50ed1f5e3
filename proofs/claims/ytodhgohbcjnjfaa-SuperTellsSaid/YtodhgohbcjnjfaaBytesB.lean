/- bytes.Clone, slices.Grow and slices.Concat at bytes: what they make, for rows of at most 2^47 bytes. -/
import Derived.Test.YtodhgohbcjnjfaaBase
import Derived.Test.YtodhgohbcjnjfaaWZeros
namespace Go.Proofs.Ytodhgohbcjnjfaa
open Go.RowKit Go.Proofs.YtodhgohbcjnjfaaW.PrintWords Go.Proofs.YtodhgohbcjnjfaaW.PrintLast Go.Proofs.YtodhgohbcjnjfaaW.PrintMore
set_option linter.unusedVariables false
set_option linter.unusedSimpArgs false
set_option maxHeartbeats 1000000 in
theorem clone_calls (A : Option Addr) (nl c : Nat) (l : List Int) (w : World) (hr : RB w A nl l) (hn : nl ≤ 140737488355328) :
    Calls Try.prog 93 #[.slice A nl c] w fun e w' => ∃ v, e = .returned v ∧ OB w' w.heap.size v l ∧ Below w.heap.size w w' := by
  obtain rfl : l.length = nl := Kd.C_len hr
  have HR := Aside0.mk hr
  clear hr
  have hq := fun (W : World) => Lib.run_eql_slice_nil (P := Try.prog) W 24 5 A l.length c 0 0 Try.underlying24
  cases A with
  | none =>
    obtain rfl : l = [] := by
      rcases l with _ | ⟨x, l⟩
      · rfl
      · obtain ⟨ad, h, _⟩ := HR.out.2.2 (by simp)
        cases h
    simp only [List.length_nil] at hq ⊢
    go_enter Try.func93, Try.ntmps93
    go_wp2
    go_ret
    exact ⟨_, rfl, Kd.R_nil _ _ _ _ _, Below.refl _ _⟩
  | some ad =>
    go_enter Try.func93, Try.ntmps93
    go_wp2_with (first
      | ((with_reducible refine gate_dst (N := 5) rfl ?_); refine Kd.R_lit (Kd.int .u8) _ 5 ?hg (N := 5) ?hd (xs := ([] : List Int)) (inner := []) (ok := fun _ => True) (okp := fun _ => True) ?hr ?hp (fun _ hk => hk) trivial (Below.refl _ _) (Nat.le_refl _) (by simp) ?_; (case hd => rfl); (case hg => rfl); (case hr => first | (go_simp; done) | (go_simp; rfl)); (case hp => exact Reps.none _ _); intro v0 w0 ho0 hb0 hg0 hnew0)
      | (at_builtin; refine Kd.R_append_rows (Kd.int .u8) (Rr := (Kd.int .u8).K w0) (w0 := w) w.heap.size rfl _ _ 24 5 (.int .u8 0) 1 rfl Try.underlying24 infoB rfl (by decide) (by decide) _ [] l (some ad) l.length c (fun _ => True) (fun k => some k ≠ v0.ownBlock) rfl rfl ho0 (Kd.C_below HR.out hb0) (fun x cs h => h) (fun k hk => ⟨trivial, hk⟩) (fun _ _ => trivial) hb0 hb0.size (by simp; omega) ?_; intro v1 w1 ho1 hb1 hg1 hnew1))
    go_ret
    exact ⟨v1, rfl, by simpa using ho1, hb1⟩
set_option maxHeartbeats 1000000 in
theorem grow_calls (n : Int) (w : World) (h0 : 0 ≤ n) (hn : n ≤ 140737488355328) :
    Calls Try.prog 108 #[.slice none 0 0, .int .i64 n] w fun e w' => ∃ v, e = .returned v ∧ OB w' w.heap.size v [] ∧ Below w.heap.size w w' := by
  by_cases hp : 0 < n
  · have hlt : ¬ n < 0 := by omega
    go_enter Try.func108, Try.ntmps108
    go_wp2_with (at_builtin; go_must (refine Kd.R_append_zeros (Kd.int .u8) (w0 := w) w.heap.size rfl _ _ 24 3 5 (.int .u8 0) 1 rfl Try.underlying24 Try.underlying3 infoB rfl (by decide) (by decide) (.slice none 0 0) [] 0 n (fun _ => True) rfl rfl rfl (fun _ _ => trivial) (Kd.R_nil _ _ _ _ _) h0 (Below.refl _ _) (Nat.le_refl _) (by simp; omega) ?_); intro v1 w1 ho1 hb1 hg1 hnew1; obtain ⟨A1, c1, rfl, hc1, hC1⟩ := Kd.R_reads ho1)
    go_ret
    exact ⟨_, rfl, by simpa using Kd.R_take ho1 (Nat.zero_le _), hb1⟩
  · obtain rfl : n = 0 := by omega
    go_enter Try.func108, Try.ntmps108
    go_wp2
    go_ret
    exact ⟨_, rfl, Kd.R_nil _ _ _ _ _, Below.refl _ _⟩
end Go.Proofs.Ytodhgohbcjnjfaa
