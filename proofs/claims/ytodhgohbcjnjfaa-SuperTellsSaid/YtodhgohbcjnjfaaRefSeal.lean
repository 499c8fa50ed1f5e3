/- The reference's Adler and Seal. -/
import Derived.Test.YtodhgohbcjnjfaaAdlerSeal
import Derived.Test.YtodhgohbcjnjfaaOr
import Derived.Test.YtodhgohbcjnjfaaKeep
namespace Go.Proofs.Ytodhgohbcjnjfaa
open Go.RowKit Go.Proofs.YtodhgohbcjnjfaaW.PrintWords Go.Proofs.YtodhgohbcjnjfaaW.PrintLast Go.Proofs.YtodhgohbcjnjfaaW.PrintMore
set_option linter.unusedVariables false
set_option linter.unusedSimpArgs false
theorem or_adler (l : List Int) : bits .or .i64 ((ad l).2 * 65536) (ad l).1 = adler l := by
  have h := ad_bd l
  rw [or_i64 16 _ _ (by omega) (by omega) (by omega) (by omega) (by omega) (by omega)]
  rfl
set_option maxHeartbeats 1000000 in
theorem radler_calls (A : Option Addr) (nl c : Nat) (l : List Int) (w : World) (hr : RB w A nl l) (hb : Byt l) :
    Calls Try.prog 116 #[.slice A nl c] w fun e w' => e = .returned (.int .i64 (adler l)) ∧ Drawn0 w w' := by
  obtain rfl : l.length = nl := Kd.C_len hr
  have HR := Aside0.mk hr
  have HL := Aside0.mk (Kd.C_max hr)
  have HB := Aside0.mk hb
  clear hr hb
  go_enter Try.func116, Try.ntmps116
  go_wp2
  go_loopw [3, 4, 9] (fun x y i w' => ∃ k : Nat, k ≤ l.length ∧ i = .int .i64 k ∧ x = .int .i64 (ad (l.take k)).1 ∧ y = .int .i64 (ad (l.take k)).2 ∧ Drawn0 w w') (fun _ _ i _ => l.length - (intOf i).toNat)
  case atStart => exact ⟨0, Nat.zero_le _, rfl, rfl, rfl, by repeat (first | exact Drawn0.refl _ | apply Drawn0.step)⟩
  case round =>
    obtain ⟨k, hk, rfl, rfl, rfl, ⟨m, rfl⟩⟩ := hrel
    have hlen := HL.out
    have hbd := ad_bd (l.take k)
    obtain ⟨⟨b1, b2⟩, b3, b4⟩ := hbd
    by_cases hlt : k < l.length
    · obtain ⟨r0, r1⟩ := HB.out.at_ k hlt
      have HS := Aside0.mk (ad_step l k hlt)
      obtain ⟨x, e1, hx⟩ := Kd.at_int HR.out k (by omega) (by omega)
      cases e1
      simp only [Int.toNat_natCast] at hx
      go_wp2
      go_roundw
      case rel => exact ⟨k + 1, by omega, by go_num, by rw [HS.out], by rw [HS.out], by repeat (first | exact Drawn0.refl _ | apply Drawn0.step)⟩
      case measure => simp [intOf]; omega
    · obtain rfl : k = l.length := by omega
      rw [List.take_length] at b1 b2 b3 b4 ⊢
      have HO := Aside0.mk (or_adler l)
      go_wp2
      go_ret
      exact ⟨ret_int HO.out, by repeat (first | exact Drawn0.refl _ | apply Drawn0.step)⟩
set_option maxHeartbeats 1000000 in
theorem rseal_calls (A : Option Addr) (nl c : Nat) (l : List Int) (w : World) (hr : RB w A nl l) (hb : Byt l) (hn : nl ≤ 140737488355324) :
    Calls Try.prog 87 #[.slice A nl c] w fun e w' => ∃ v, e = .returned v ∧ OB w' w.heap.size v (sealed l) ∧ Below w.heap.size w w' := by
  obtain rfl : l.length = nl := Kd.C_len hr
  have HR := Aside0.mk hr
  have HY := Aside0.mk hb
  have n0 := (adler_bd l).1
  clear hr hb
  go_enter Try.func87, Try.ntmps87
  go_wp2_with fail
  refine (radler_calls _ _ _ l _ HR.out HY.out).mono ?_
  rintro e w1 ⟨rfl, ⟨m, rfl⟩⟩
  have h1 := OB_new (w.drewN m) w.heap.size (be4 (adler l)) (Nat.le_refl _) (by simp [be4])
  have HC := Aside0.mk (Kd.C_below HR.out (below_alloc (pw_below_drewN (Below.refl w.heap.size w) m) (.cells (nums .u8 (be4 (adler l))).toArray 5)))
  have H1 := Aside0.mk h1
  clear h1
  go_wp2_with (at_builtin; go_must (refine Kd.R_append_rows (Kd.int .u8) (Rr := (Kd.int .u8).K ((w.drewN m).alloc (.cells (nums .u8 (be4 (adler l))).toArray 5))) (w0 := w) w.heap.size rfl (.tmp 17) (.tmp 18) 24 5 (.int .u8 0) 1 rfl Try.underlying24 infoB rfl (by decide) (by decide) _ (be4 (adler l)) l A l.length c (fun _ => True) (fun k => some k ≠ Value.ownBlock _) rfl rfl H1.out HC.out (fun _ _ h => h) (fun k hk => ⟨trivial, hk⟩) (fun _ _ => trivial) (below_alloc (pw_below_drewN (Below.refl _ _) m) _) (by simp) (by simp [be4]; omega) ?_); intro v3 w3 ho3 hb3 _ _)
  go_ret
  exact ⟨_, rfl, ho3, hb3⟩
end Go.Proofs.Ytodhgohbcjnjfaa
