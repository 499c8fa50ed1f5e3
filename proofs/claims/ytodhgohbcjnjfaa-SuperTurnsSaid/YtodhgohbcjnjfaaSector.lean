/- Sector: full of a byte. -/
import Derived.Test.YtodhgohbcjnjfaaKeep2
import Derived.Test.YtodhgohbcjnjfaaObs
namespace Go.Proofs.Ytodhgohbcjnjfaa
open Go.RowKit Go.Proofs.YtodhgohbcjnjfaaW.PrintWords Go.Proofs.YtodhgohbcjnjfaaW.PrintLast Go.Proofs.YtodhgohbcjnjfaaW.PrintMore
set_option linter.unusedVariables false
set_option linter.unusedSimpArgs false
set_option maxRecDepth 100000
theorem rep_set (k : Nat) (hk : k < 64) (x : Int) : (List.replicate k x ++ List.replicate (64 - k) 0).set k x = List.replicate (k + 1) x ++ List.replicate (64 - (k + 1)) 0 := by
  rw [List.set_append_right _ _ (by simp), List.length_replicate, Nat.sub_self, show 64 - k = (64 - (k + 1)) + 1 from by omega, List.replicate_succ, List.set_cons_zero, List.replicate_succ', List.append_assoc]
  rfl
theorem byt_rep (n : Nat) (x : Int) (h : 0 ≤ x ∧ x < 256) : Byt (List.replicate n x) := fun y hy => by
  have := List.eq_of_mem_replicate hy
  omega
set_option maxHeartbeats 4000000 in
theorem sector_calls (x : Int) (w : World) (h : 0 ≤ x ∧ x < 256) :
    Calls Try.prog 38 #[.int .i64 x] w fun e w' => ∃ v, e = .returned v ∧ OB w' w.heap.size v (List.replicate 64 x) ∧ Below w.heap.size w w' := by
  obtain ⟨h0, h1⟩ := h
  have hq : x / 256 = 0 := by omega
  have hq' : x % 256 = x := by omega
  go_enter Try.func38, Try.ntmps38
  go_wp2_with (at_make; go_must (refine Kd.R_make (Kd.int .u8) (w0 := w) w.heap.size 5 rfl (N := 5) rfl 24 _ _ rfl 64 rfl rfl Try.underlying24 (.int .u8 0) 1 infoB rfl (by decide) (by decide) 0 (ok := fun _ => True) (okp := fun _ => True) rfl (fun _ _ => trivial) trivial (by omega) (by omega) (Below.refl _ _) (Nat.le_refl _) ?_); intro v1 w1 ho1 hb1 hg1 hn1; obtain ⟨g, cap, rfl, hg, hgl, _⟩ := Kd.R_form ho1 (by simp))
  have HO := Aside0.mk ho1
  have HB := Aside0.mk hb1
  clear ho1 hb1 hg1 hn1
  simp only [List.length_replicate] at HO ⊢
  go_loopw [8] (fun i wr => ∃ k : Nat, k ≤ 64 ∧ i = .int .i64 k ∧ Aside0 (OB wr w.heap.size (.slice (some ⟨g, 0, none⟩) 64 cap) (List.replicate k x ++ List.replicate (64 - k) 0)) ∧ Aside0 (Below w.heap.size w wr)) (fun i _ => 64 - (intOf i).toNat)
  case atStart => exact ⟨0, by omega, rfl, HO, HB⟩
  case round =>
    obtain ⟨k, hk, rfl, HK, HBK⟩ := hrel
    by_cases hlt : k < 64
    · obtain ⟨hc, hf⟩ := OB_at HK.out k hlt
      have HP := Aside0.mk (OB_put HK.out k x)
      have i0 : (0 : Int) ≤ (k : Int) := by omega
      have i1 : (k : Int) < 64 := by omega
      generalize rd (List.replicate k x ++ List.replicate (64 - k) 0) (k : Int) = u at *
      go_wp2
      go_roundw
      case rel => exact ⟨k + 1, by omega, by go_num, ⟨by rw [← rep_set k hlt]; exact HP.out⟩, ⟨below_set HBK.out hg⟩⟩
      case measure => simp [intOf]; omega
    · obtain rfl : k = 64 := by omega
      go_wp2
      go_ret
      exact ⟨_, rfl, by simpa using HK.out, HBK.out⟩
end Go.Proofs.Ytodhgohbcjnjfaa
