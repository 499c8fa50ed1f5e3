/- slices.Concat at bytes: the rows one behind the other, in new memory, where they are of at most 2^47 bytes together. -/
import Derived.Test.YtodhgohbcjnjfaaBytesB
namespace Go.Proofs.Ytodhgohbcjnjfaa
open Go.RowKit Go.Proofs.YtodhgohbcjnjfaaW.PrintWords Go.Proofs.YtodhgohbcjnjfaaW.PrintLast Go.Proofs.YtodhgohbcjnjfaaW.PrintMore
set_option linter.unusedVariables false
set_option linter.unusedSimpArgs false
/-- A row of rows of bytes. -/
abbrev KBB : Kd (List Int) := Kd.slice 5 (Kd.int .u8)
theorem at_row {w : World} {A : Option Addr} {n : Nat} {ll : List (List Int)} (h : Kd.C KBB w A n ll) (k : Nat) (hk : k < n) :
    ∃ ad A1 c1, A = some ad ∧ w.cell? (ad.add k) = some (.slice A1 (ll.getD k []).length c1) ∧ (ll.getD k []).length ≤ c1 ∧ RB w A1 (ll.getD k []).length (ll.getD k []) := by
  obtain ⟨ad, c, e, _, ⟨A1, c1, rfl, hl, hC⟩, hc⟩ := Kd.C_get h [] k (by omega) (by omega)
  have := hc 0 _ rfl
  simp only [Int.toNat_natCast, Nat.add_zero] at this hl hC
  rw [show k * KBB.sz = k from Nat.mul_one k] at this
  exact ⟨ad, A1, c1, e, this, hl, hC⟩
theorem flat_take (ll : List (List Int)) (k : Nat) (hk : k < ll.length) : (ll.take (k + 1)).flatten = (ll.take k).flatten ++ ll.getD k [] := by
  rw [List.take_succ_eq_append_getElem hk, List.flatten_append]
  simp [List.getD, hk]
theorem flat_take_le (ll : List (List Int)) (k : Nat) : (ll.take k).flatten.length ≤ ll.flatten.length := by
  have := congrArg (fun l => l.flatten.length) (List.take_append_drop k ll)
  simp only [List.flatten_append, List.length_append] at this
  omega
set_option maxHeartbeats 2000000 in
theorem concat_calls (A : Option Addr) (nl c : Nat) (ll : List (List Int)) (w : World) (hr : Kd.C KBB w A nl ll) (hn : ll.flatten.length ≤ 140737488355328) :
    Calls Try.prog 59 #[.slice A nl c] w fun e w' => ∃ v, e = .returned v ∧ OB w' w.heap.size v ll.flatten ∧ Below w.heap.size w w' := by
  obtain rfl : ll.length = nl := Kd.C_len hr
  have HR := Aside0.mk hr
  have HL := Aside0.mk (Kd.C_max hr)
  clear hr
  go_enter Try.func59, Try.ntmps59
  go_wp2
  go_loopw [3, 11] (fun s i w' => ∃ k : Nat, k ≤ ll.length ∧ i = .int .i64 k ∧ s = .int .i64 (ll.take k).flatten.length ∧ Drawn0 w w') (fun _ i _ => ll.length - (intOf i).toNat)
  case atStart => exact ⟨0, Nat.zero_le _, rfl, rfl, by repeat (first | exact Drawn0.refl _ | apply Drawn0.step)⟩
  case round =>
    obtain ⟨k, hk, rfl, rfl, ⟨m, rfl⟩⟩ := hrel
    have hlen := HL.out
    by_cases hlt : k < ll.length
    · obtain ⟨x, A1, c1, e1, hx, hl1, hC1⟩ := at_row HR.out k hlt
      cases e1
      have HF := Aside0.mk (flat_take ll k hlt)
      have hle := flat_take_le ll (k + 1)
      rw [HF.out, List.length_append] at hle
      have hneg : ¬ ((ll.take k).flatten.length : Int) + ((ll.getD k []).length : Int) < 0 := by omega
      generalize (ll.take k).flatten = F at *
      generalize ll.getD k [] = G at *
      go_wp2
      go_roundw
      case rel => exact ⟨k + 1, by omega, by go_num, by rw [HF.out, List.length_append]; go_num, by repeat (first | exact Drawn0.refl _ | apply Drawn0.step)⟩
      case measure => simp [intOf]; omega
    · obtain rfl : k = ll.length := by omega
      rw [List.take_length]
      obtain ⟨N, hN⟩ : ∃ N : Nat, N = ll.flatten.length := ⟨_, rfl⟩
      rw [← hN] at hn
      simp only [← hN]
      have HN := Aside0.mk hN
      clear hN
      have h0 : (0 : Int) ≤ (N : Int) := by omega
      have h1 : (N : Int) ≤ 140737488355328 := by omega
      go_wp2_with (go_at_call 108; with_reducible refine (grow_calls _ _ h0 h1).mono ?_; rintro e w1 ⟨v1, rfl, ho1, hb1⟩)
      have hb2 : Below w.heap.size w w1 := below_then (pw_below_drewN (Below.refl _ _) m) (by simp) hb1
      go_loopw [6, 27] (fun v i wr => ∃ k : Nat, k ≤ ll.length ∧ i = .int .i64 k ∧ OB wr w.heap.size v (ll.take k).flatten ∧ Below w.heap.size w wr) (fun _ i _ => ll.length - (intOf i).toNat)
      case atStart => exact ⟨0, Nat.zero_le _, rfl, by simpa using ho1, hb2⟩
      case round =>
        obtain ⟨k, hk, rfl, ho, hb⟩ := hrel
        clear ho1 hb1 hb2
        by_cases hlt : k < ll.length
        · obtain ⟨x, A1, c1, e1, hx, hl1, hC1⟩ := at_row (Kd.C_below HR.out hb) k hlt
          cases e1
          have HF := Aside0.mk (flat_take ll k hlt)
          have hle := flat_take_le ll (k + 1)
          rw [HF.out, List.length_append, ← HN.out] at hle
          have HO := Aside0.mk ho
          have HB := Aside0.mk hb
          have HC := Aside0.mk hC1
          clear ho hb hC1
          generalize (ll.take k).flatten = F at *
          generalize ll.getD k [] = G at *
          go_wp2_with (at_builtin; go_must (refine Kd.R_append_rows (Kd.int .u8) (w0 := w) w.heap.size rfl (.tmp 31) (.tmp 32) 24 5 (.int .u8 0) 1 rfl Try.underlying24 infoB rfl (by decide) (by decide) _ F G A1 G.length c1 (fun _ => True) (fun k => some k ≠ Value.ownBlock _) rfl rfl HO.out HC.out (fun x cs h => h) (fun k hk => ⟨trivial, hk⟩) (fun _ _ => trivial) HB.out HB.out.size (by omega) ?_); intro v3 w3 ho3 hb3 hg3 hnew3)
          go_roundw
          case rel => exact ⟨k + 1, by omega, by go_num, by rw [HF.out]; exact ho3, hb3⟩
          case measure => simp [intOf]; omega
        · obtain rfl : k = ll.length := by omega
          rw [List.take_length] at ho
          have HO := Aside0.mk ho
          have HB := Aside0.mk hb
          clear ho hb
          go_wp2
          go_ret
          exact ⟨_, rfl, HO.out, HB.out⟩
end Go.Proofs.Ytodhgohbcjnjfaa
