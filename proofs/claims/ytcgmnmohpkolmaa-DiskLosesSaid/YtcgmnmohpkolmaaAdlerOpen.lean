/- bytes.Equal and adler.Open: what they tell and make. -/
import Derived.Test.YtcgmnmohpkolmaaAdlerSeal
namespace Go.Proofs.Ytcgmnmohpkolmaa
open Go.RowKit Go.Proofs.YtcgmnmohpkolmaaW.PrintWords Go.Proofs.YtcgmnmohpkolmaaW.PrintLast Go.Proofs.YtcgmnmohpkolmaaW.PrintMore
set_option linter.unusedVariables false
set_option linter.unusedSimpArgs false
set_option maxHeartbeats 1000000 in
theorem equal_calls (A : Option Addr) (nl c : Nat) (l : List Int) (A1 : Option Addr) (nl1 c1 : Nat) (l1 : List Int) (w : World) (hr : RB w A nl l) (hr1 : RB w A1 nl1 l1) (hb : Byt l) (hb1 : Byt l1) :
    Calls Try.prog 39 #[.slice A nl c, .slice A1 nl1 c1] w fun e w' => e = .returned (.bool (decide (l = l1))) ∧ w = w' := by
  obtain rfl : l.length = nl := Kd.C_len hr
  obtain rfl : l1.length = nl1 := Kd.C_len hr1
  have HI := Aside0.mk (strOfNums_inj hb hb1)
  have hcv3 := Kd.C_string (P := Try.prog) (c := c) Try.underlying22 Try.underlying5 Try.underlying9 hr
  have hcv4 := Kd.C_string (P := Try.prog) (c := c1) Try.underlying22 Try.underlying5 Try.underlying9 hr1
  clear hr hr1
  go_enter Try.func39, Try.ntmps39
  go_wp2
  go_ret
  exact ⟨by rw [← HI.out]; rfl, rfl⟩
/-- What is opened. -/
def opened (l : List Int) : List Int := if 4 ≤ l.length ∧ be4 (adler (l.drop 4)) = l.take 4 then l.drop 4 else []
def opens (l : List Int) : Bool := decide (4 ≤ l.length ∧ be4 (adler (l.drop 4)) = l.take 4)
set_option maxHeartbeats 2000000 in
theorem open_calls (A : Option Addr) (nl c : Nat) (l : List Int) (w : World) (hr : RB w A nl l) (hc : nl ≤ c) (hb : Byt l) (hn : nl ≤ 140737488355328) :
    Calls Try.prog 18 #[.slice A nl c] w fun e w' => ∃ v, e = .returned (.tuple #[v, .bool (opens l)]) ∧ OB w' w.heap.size v (opened l) ∧ Below w.heap.size w w' := by
  obtain rfl : l.length = nl := Kd.C_len hr
  by_cases hl : l.length < 4
  · have h1 : decide ((l.length : Int) < 4) = true := by simp; omega
    have e1 : opened l = [] := if_neg (by omega)
    have e2 : opens l = false := by unfold opens; simp; omega
    rw [e1, e2]
    clear e1 e2 hr
    go_enter Try.func18, Try.ntmps18
    go_wp2
    go_quiet (fail)
    go_wp2
    go_ret2
    exact ⟨_, rfl, Kd.R_nil _ _ _ _ _, pw_below_drewN (Below.refl _ _) _⟩
  · have h1 : decide ((l.length : Int) < 4) = false := by simp; omega
    obtain ⟨A4, c4, hcut, hl4, hC4⟩ := cut_from (P := Try.prog) 22 5 Try.underlying22 infoB hr hc 4 4 rfl (by omega)
    obtain ⟨hcu, hCt⟩ := cut_to (P := Try.prog) 22 5 Try.underlying22 infoB hr hc 4 4 rfl (by omega)
    have HY4 := Aside0.mk (hb.drop 4)
    have HYt := Aside0.mk (hb.take 4)
    have HC4 := Aside0.mk hC4
    have HCt := Aside0.mk hCt
    have hlt : (l.take 4).length = 4 := by rw [List.length_take]; omega
    have hld : (l.drop 4).length = l.length - 4 := List.length_drop
    have e1 := Aside0.mk (show opened l = if be4 (adler (l.drop 4)) = l.take 4 then l.drop 4 else [] by unfold opened; simp only [show 4 ≤ l.length by omega, true_and])
    have e2 := Aside0.mk (show opens l = decide (be4 (adler (l.drop 4)) = l.take 4) by unfold opens; simp only [show 4 ≤ l.length by omega, true_and])
    have k1 := Aside0.mk (of4_calls A4 (l.length - 4) c4 (l.drop 4))
    have k2 := Aside0.mk (equal_calls (nl := 4) (nl1 := 4) (l := be4 (adler (l.drop 4))) (l1 := l.take 4))
    have k3 := Aside0.mk (clone_calls A4 (l.length - 4) c4 (l.drop 4))
    have hlb : (be4 (adler (l.drop 4))).length = 4 := rfl
    have hy : Byt (be4 (adler (l.drop 4))) := be4_byt _
    clear hr hC4 hCt hb
    go_enter Try.func18, Try.ntmps18
    go_wp2
    refine start_ (n := 12) (S := fun w' => RB w' A4 (l.length - 4) (l.drop 4) ∧ RB w' A 4 (l.take 4) ∧ Below w.heap.size w w') (ds := []) #[false, false, false, false, false, false, false, false, false, false, false, false] (by kernel_rfl) rfl rfl ⟨(by have := HC4.out; rwa [hld] at this), (by have := HCt.out; rwa [hlt] at this), (below_drew (Below.refl _ _))⟩ (fun hHeld => ?_)
    refine pure_ (i := 0) (N := some 4) (v := ?_) (a' := ?_) #[true, false, false, false, false, false, false, false, false, false, false, false] rfl rfl (by kernel_rfl) (fun _ _ _ h => h) (Or.inl ⟨by rfl, ?_⟩) ?_ ?_
    rotate_left
    · intro w'
      go_simp
      with_reducible rfl
    rotate_left
    · simp only [Act.put, List.setIfInBounds_toArray, List.set_cons_zero, List.set_cons_succ, i64_w, i32_w]
      rfl
    refine pure_ (i := 1) (N := some 5) (v := ?_) (a' := ?_) #[true, true, false, false, false, false, false, false, false, false, false, false] rfl rfl (by kernel_rfl) (fun _ _ _ h => h) (Or.inl ⟨by rfl, ?_⟩) ?_ ?_
    rotate_left
    · intro w'
      go_simp
      with_reducible rfl
    rotate_left
    · simp only [Act.put, List.setIfInBounds_toArray, List.set_cons_zero, List.set_cons_succ, i64_w, i32_w]
      rfl
    refine pure_ (i := 2) (N := some 6) (v := ?_) (a' := ?_) #[true, true, true, false, false, false, false, false, false, false, false, false] rfl rfl (by kernel_rfl) (fun _ _ _ h => h) (Or.inl ⟨by rfl, ?_⟩) ?_ ?_
    rotate_left
    · intro w'
      go_simp
      with_reducible rfl
    rotate_left
    · simp only [Act.put, List.setIfInBounds_toArray, List.set_cons_zero, List.set_cons_succ, i64_w, i32_w]
      rfl
    refine pure_ (i := 3) (N := some 7) (v := ?_) (a' := ?_) #[true, true, true, true, false, false, false, false, false, false, false, false] rfl rfl (by kernel_rfl) (fun _ _ _ h => h) (Or.inl ⟨by rfl, ?_⟩) ?_ ?_
    rotate_left
    · intro w'
      go_simp
      with_reducible rfl
    rotate_left
    · simp only [Act.put, List.setIfInBounds_toArray, List.set_cons_zero, List.set_cons_succ, i64_w, i32_w]
      rfl
    refine pure_ (i := 4) (N := some 8) (v := ?_) (a' := ?_) #[true, true, true, true, true, false, false, false, false, false, false, false] rfl rfl (by kernel_rfl) (fun _ _ _ h => h) (Or.inl ⟨by rfl, ?_⟩) ?_ ?_
    rotate_left
    · intro w'
      go_simp
      with_reducible rfl
    rotate_left
    · simp only [Act.put, List.setIfInBounds_toArray, List.set_cons_zero, List.set_cons_succ, i64_w, i32_w]
      rfl
    refine pure_ (i := 5) (N := some 9) (v := ?_) (a' := ?_) #[true, true, true, true, true, true, false, false, false, false, false, false] rfl rfl (by kernel_rfl) (fun _ _ _ h => h) (Or.inl ⟨by rfl, ?_⟩) ?_ ?_
    rotate_left
    · intro w'
      go_simp
      with_reducible rfl
    rotate_left
    · simp only [Act.put, List.setIfInBounds_toArray, List.set_cons_zero, List.set_cons_succ, i64_w, i32_w]
      rfl
    refine pure_ (i := 7) (N := some 11) (v := ?_) (a' := ?_) #[true, true, true, true, true, true, false, true, false, false, false, false] rfl rfl (by kernel_rfl) (fun _ _ _ h => h) (Or.inl ⟨by rfl, ?_⟩) ?_ ?_
    rotate_left
    · intro w'
      go_simp
      with_reducible rfl
    rotate_left
    · simp only [Act.put, List.setIfInBounds_toArray, List.set_cons_zero, List.set_cons_succ, i64_w, i32_w]
      rfl
    refine pure_ (i := 8) (N := some 12) (v := ?_) (a' := ?_) #[true, true, true, true, true, true, false, true, true, false, false, false] rfl rfl (by kernel_rfl) (fun _ _ _ h => h) (Or.inl ⟨by rfl, ?_⟩) ?_ ?_
    rotate_left
    · intro w'
      go_simp
      with_reducible rfl
    rotate_left
    · simp only [Act.put, List.setIfInBounds_toArray, List.set_cons_zero, List.set_cons_succ, i64_w, i32_w]
      rfl
    refine one_ (i := 6) (N := some 10) #[true, true, true, true, true, true, true, true, true, false, false, false] rfl rfl (by kernel_rfl) (by decide) (fun K hK => ?_)
    refine goes_ Try.func38 (by kernel_rfl) rfl #[.slice A4 (l.length - 4) c4] (by rfl) rfl rfl (by simp only [List.map_toArray, List.map_cons, List.map_nil]; rfl) ?_
    with_reducible refine (k1.out _ hHeld.1 HY4.out).mono ?_
    rintro e w1 ⟨v1, rfl, ho1, hb1⟩
    refine ⟨_, rfl, ?_⟩
    have hHeld' := hHeld
    obtain ⟨A1, c1, rfl, hc1, hC1⟩ := Kd.R_reads ho1
    have hC1' : RB w1 A1 4 (be4 (adler (l.drop 4))) := hC1
    refine hK.out _ _ ⟨(Kd.C_below hHeld'.1 hb1), (Kd.C_below hHeld'.2.1 hb1), (below_step hHeld'.2.2 hb1)⟩ (fun hHeld => ?_)
    clear hK K
    refine norm_ (a' := ?_) ?_ ?_
    rotate_left
    · show Act.put _ (some 10) _ = _
      simp only [Act.put, List.setIfInBounds_toArray, List.set_cons_zero, List.set_cons_succ, i64_w, i32_w]
      rfl
    refine one_ (i := 9) (N := some 13) #[true, true, true, true, true, true, true, true, true, true, false, false] rfl rfl (by kernel_rfl) (by decide) (fun K hK => ?_)
    refine goes_ Try.func39 (by kernel_rfl) rfl #[.slice A1 4 c1, .slice A 4 c] (by rfl) rfl rfl (by simp only [List.map_toArray, List.map_cons, List.map_nil]; rfl) ?_
    with_reducible refine (k2.out A1 c1 A c w1 hC1' hHeld.2.1 hy HYt.out).mono ?_
    rintro e w2 ⟨rfl, rfl⟩
    refine ⟨_, rfl, ?_⟩
    generalize hq : decide (be4 (adler (l.drop 4)) = l.take 4) = q
    have HQ := Aside0.mk hq
    clear hq
    refine hK.out _ _ ⟨hHeld.1, hHeld.2.1, hHeld.2.2⟩ (fun hHeld => ?_)
    clear hK K
    refine norm_ (a' := ?_) ?_ ?_
    rotate_left
    · show Act.put _ (some 13) _ = _
      simp only [Act.put, List.setIfInBounds_toArray, List.set_cons_zero, List.set_cons_succ, i64_w, i32_w]
      rfl
    refine pure_ (i := 10) (N := some 14) (v := ?_) (a' := ?_) #[true, true, true, true, true, true, true, true, true, true, true, false] rfl rfl (by kernel_rfl) (fun _ _ _ h => h) (Or.inl ⟨by rfl, ?_⟩) ?_ ?_
    rotate_left
    · intro w'
      go_simp
      with_reducible rfl
    rotate_left
    · simp only [Act.put, List.setIfInBounds_toArray, List.set_cons_zero, List.set_cons_succ, i64_w, i32_w]
      rfl
    refine pure_ (i := 11) (N := some 15) (v := ?_) (a' := ?_) #[true, true, true, true, true, true, true, true, true, true, true, true] rfl rfl (by kernel_rfl) (fun _ _ _ h => h) (Or.inl ⟨by rfl, ?_⟩) ?_ ?_
    rotate_left
    · intro w'
      go_simp
      with_reducible rfl
    rotate_left
    · simp only [Act.put, List.setIfInBounds_toArray, List.set_cons_zero, List.set_cons_succ, i64_w, i32_w]
      rfl
    refine done_ (by kernel_rfl) ?_
    clear k1 k2 HC4 HCt HY4 HYt hy ho1 hb1 hc1 hC1 hC1'
    cases q
    · go_wp2
      go_ret2
      refine ⟨.slice none 0 0, ?_, ?_, hHeld.2.2⟩
      · rw [e2.out, HQ.out]
        rfl
      · rw [e1.out, if_neg (of_decide_eq_false HQ.out)]
        exact Kd.R_nil _ _ _ _ _
    · go_wp2_with (go_at_call 40; with_reducible refine (k3.out _ hHeld.1 (by omega)).mono ?_; rintro e w2 ⟨v2, rfl, ho2, hb2⟩)
      go_ret2
      refine ⟨v2, ?_, ?_, below_step hHeld.2.2 hb2⟩
      · rw [e2.out, HQ.out]
        rfl
      · rw [e1.out, if_pos (of_decide_eq_true HQ.out)]
        exact Kd.R_lower ho2 hHeld.2.2.size
end Go.Proofs.Ytcgmnmohpkolmaa
