/- florilegiumref01's Adler, Seal and Open tell and make the same as adler's. -/
import Derived.Test.YtcgmnmohpkolmaaAdlerSeals
namespace Go.Proofs.Ytcgmnmohpkolmaa
open Go.RowKit Go.Proofs.YtcgmnmohpkolmaaW.PrintWords Go.Proofs.YtcgmnmohpkolmaaW.PrintLast Go.Proofs.YtcgmnmohpkolmaaW.PrintMore
set_option linter.unusedVariables false
set_option linter.unusedSimpArgs false
theorem or_adler (l : List Int) : bits .or .i64 ((ad l).2 * 65536) (ad l).1 = adler l := by
  have h := ad_bd l
  rw [or_i64 16 _ _ (by omega) (by omega) (by omega) (by omega) (by omega) (by omega)]
  rfl
set_option maxHeartbeats 1000000 in
theorem radler_calls (A : Option Addr) (nl c : Nat) (l : List Int) (w : World) (hr : RB w A nl l) (hb : Byt l) :
    Calls Try.prog 20 #[.slice A nl c] w fun e w' => e = .returned (.int .i64 (adler l)) ∧ Drawn0 w w' := by
  obtain rfl : l.length = nl := Kd.C_len hr
  have HR := Aside0.mk hr
  have HL := Aside0.mk (Kd.C_max hr)
  have HB := Aside0.mk hb
  clear hr hb
  go_enter Try.func20, Try.ntmps20
  go_wp2
  go_loopw [3, 4, 9] (fun x y i w' => ∃ k : Nat, k ≤ l.length ∧ i = .int .i64 k ∧ x = .int .i64 (ad (l.take k)).1 ∧ y = .int .i64 (ad (l.take k)).2 ∧ Drawn0 w w') (fun _ _ i _ => l.length - (intOf i).toNat)
  case atStart => exact ⟨0, Nat.zero_le _, rfl, rfl, rfl, by repeat (first | exact Drawn0.refl _ | apply Drawn0.step)⟩
  case round =>
    obtain ⟨k, hk, rfl, rfl, rfl, ⟨m, rfl⟩⟩ := hrel
    have hlen := HL.out
    have hbd := ad_bd (l.take k)
    obtain ⟨⟨b1, b2⟩, b3, b4⟩ := hbd
    by_cases hlt : k < l.length
    · obtain ⟨r0, r1⟩ := HB.out.at_ k hlt
      have HS := Aside0.mk (ad_step l k hlt)
      obtain ⟨x, e1, hx⟩ := Kd.at_int HR.out k (by omega) (by omega)
      cases e1
      simp only [Int.toNat_natCast] at hx
      go_wp2
      go_roundw
      case rel => exact ⟨k + 1, by omega, by go_num, by rw [HS.out], by rw [HS.out], by repeat (first | exact Drawn0.refl _ | apply Drawn0.step)⟩
      case measure => simp [intOf]; omega
    · obtain rfl : k = l.length := by omega
      rw [List.take_length] at b1 b2 b3 b4 ⊢
      have HO := Aside0.mk (or_adler l)
      go_wp2
      go_ret
      exact ⟨ret_int HO.out, by repeat (first | exact Drawn0.refl _ | apply Drawn0.step)⟩
set_option maxHeartbeats 1000000 in
theorem rseal_calls (A : Option Addr) (nl c : Nat) (l : List Int) (w : World) (hr : RB w A nl l) (hb : Byt l) (hn : nl ≤ 140737488355324) :
    Calls Try.prog 21 #[.slice A nl c] w fun e w' => ∃ v, e = .returned v ∧ OB w' w.heap.size v (sealed l) ∧ Below w.heap.size w w' := by
  obtain rfl : l.length = nl := Kd.C_len hr
  have HR := Aside0.mk hr
  have HY := Aside0.mk hb
  have n0 := (adler_bd l).1
  clear hr hb
  go_enter Try.func21, Try.ntmps21
  go_wp2_with fail
  refine (radler_calls _ _ _ l _ HR.out HY.out).mono ?_
  rintro e w1 ⟨rfl, ⟨m, rfl⟩⟩
  have h1 := OB_new (w.drewN m) w.heap.size (be4 (adler l)) (Nat.le_refl _) (by simp [be4])
  have HC := Aside0.mk (Kd.C_below HR.out (below_alloc (pw_below_drewN (Below.refl w.heap.size w) m) (.cells (nums .u8 (be4 (adler l))).toArray 5)))
  have H1 := Aside0.mk h1
  clear h1
  go_wp2_with (at_builtin; go_must (refine Kd.R_append_rows (Kd.int .u8) (Rr := (Kd.int .u8).K ((w.drewN m).alloc (.cells (nums .u8 (be4 (adler l))).toArray 5))) (w0 := w) w.heap.size rfl (.tmp 17) (.tmp 18) 22 5 (.int .u8 0) 1 rfl Try.underlying22 infoB rfl (by decide) (by decide) _ (be4 (adler l)) l A l.length c (fun _ => True) (fun k => some k ≠ Value.ownBlock _) rfl rfl H1.out HC.out (fun _ _ h => h) (fun k hk => ⟨trivial, hk⟩) (fun _ _ => trivial) (below_alloc (pw_below_drewN (Below.refl _ _) m) _) (by simp) (by simp [be4]; omega) ?_); intro v3 w3 ho3 hb3 _ _)
  go_ret
  exact ⟨_, rfl, ho3, hb3⟩
theorem sealed_eq_iff (l : List Int) (h : 4 ≤ l.length) : sealed (l.drop 4) = l ↔ be4 (adler (l.drop 4)) = l.take 4 := by
  constructor
  · intro e
    have := congrArg (List.take 4) e
    rwa [sealed_take] at this
  · intro e
    rw [sealed, e, List.take_append_drop]
theorem strOfNums_inj_ne {l m : List Int} (hl : Byt l) (hm : Byt m) : ((strOfNums l).toList != (strOfNums m).toList) = !decide (l = m) := by
  rw [bne, strOfNums_inj hl hm]
set_option maxRecDepth 100000
set_option maxHeartbeats 2000000 in
theorem ropen_calls (A : Option Addr) (nl c : Nat) (l : List Int) (w : World) (hr : RB w A nl l) (hc : nl ≤ c) (hb : Byt l) (hn : nl ≤ 140737488355324) :
    Calls Try.prog 23 #[.slice A nl c] w fun e w' => ∃ v, e = .returned (.tuple #[v, .bool (opens l)]) ∧ OB w' w.heap.size v (opened l) ∧ Below w.heap.size w w' := by
  obtain rfl : l.length = nl := Kd.C_len hr
  by_cases hl : l.length < 4
  · have h1 : decide ((l.length : Int) < 4) = true := by simp; omega
    have e1 : opened l = [] := if_neg (by omega)
    have e2 : opens l = false := by unfold opens; simp; omega
    rw [e1, e2]
    clear e1 e2 hr
    go_enter Try.func23, Try.ntmps23
    go_wp2
    go_quiet (fail)
    go_wp2
    go_ret2
    exact ⟨_, rfl, Kd.R_nil _ _ _ _ _, pw_below_drewN (Below.refl _ _) _⟩
  · have h1 : decide ((l.length : Int) < 4) = false := by simp; omega
    obtain ⟨A4, c4, hcut, hl4, hC4⟩ := cut_from (P := Try.prog) 22 5 Try.underlying22 infoB hr hc 4 4 rfl (by omega)
    have hld : (l.drop 4).length = l.length - 4 := List.length_drop
    rw [hld] at hC4
    have HY4 := Aside0.mk (hb.drop 4)
    have HYS := Aside0.mk (sealed_byt (hb.drop 4))
    have HC4 := Aside0.mk hC4
    have HR := Aside0.mk hr
    have e1 := Aside0.mk (show opened l = if sealed (l.drop 4) = l then l.drop 4 else [] by unfold opened; simp only [show 4 ≤ l.length by omega, true_and, sealed_eq_iff l (by omega)])
    have e2 := Aside0.mk (show opens l = decide (sealed (l.drop 4) = l) by unfold opens; simp only [show 4 ≤ l.length by omega, true_and, sealed_eq_iff l (by omega)])
    have HNE := Aside0.mk (strOfNums_inj HYS.out hb)
    have k1 := Aside0.mk (rseal_calls A4 (l.length - 4) c4 (l.drop 4))
    clear hr hC4 hb
    generalize hSS : sealed (l.drop 4) = SS at *
    clear hSS
    go_enter Try.func23, Try.ntmps23
    go_wp2
    refine start_ (n := 12) (S := fun w' => RB w' A4 (l.length - 4) (l.drop 4) ∧ (convert 22 9 (.slice A l.length c)).run Try.prog w' = .ok (.string (strOfNums l)) w' ∧ Below w.heap.size w w') (ds := []) #[false, false, false, false, false, false, false, false, false, false, false, false] (by kernel_rfl) rfl rfl ⟨HC4.out, (Kd.C_string Try.underlying22 Try.underlying5 Try.underlying9 (Kd.C_drew HR.out)), (below_drew (Below.refl _ _))⟩ (fun hHeld => ?_)
    refine pure_ (i := 0) (N := some 4) (v := ?_) (a' := ?_) #[true, false, false, false, false, false, false, false, false, false, false, false] rfl rfl (by kernel_rfl) (fun _ _ _ h => h) (Or.inl ⟨by rfl, ?_⟩) ?_ ?_
    rotate_left
    · intro w'
      go_simp
      with_reducible rfl
    rotate_left
    · simp only [Act.put, List.setIfInBounds_toArray, List.set_cons_zero, List.set_cons_succ, i64_w, i32_w]
      rfl
    refine pure_ (i := 1) (N := some 5) (v := ?_) (a' := ?_) #[true, true, false, false, false, false, false, false, false, false, false, false] rfl rfl (by kernel_rfl) (fun _ _ _ h => h) (Or.inl ⟨by rfl, ?_⟩) ?_ ?_
    rotate_left
    · intro w'
      go_simp
      with_reducible rfl
    rotate_left
    · simp only [Act.put, List.setIfInBounds_toArray, List.set_cons_zero, List.set_cons_succ, i64_w, i32_w]
      rfl
    refine pure_ (i := 2) (N := some 6) (v := ?_) (a' := ?_) #[true, true, true, false, false, false, false, false, false, false, false, false] rfl rfl (by kernel_rfl) (fun _ _ _ h => h) (Or.inl ⟨by rfl, ?_⟩) ?_ ?_
    rotate_left
    · intro w'
      go_simp
      with_reducible rfl
    rotate_left
    · simp only [Act.put, List.setIfInBounds_toArray, List.set_cons_zero, List.set_cons_succ, i64_w, i32_w]
      rfl
    refine pure_ (i := 3) (N := some 7) (v := ?_) (a' := ?_) #[true, true, true, true, false, false, false, false, false, false, false, false] rfl rfl (by kernel_rfl) (fun _ _ _ h => h) (Or.inl ⟨by rfl, ?_⟩) ?_ ?_
    rotate_left
    · intro w'
      go_simp
      with_reducible rfl
    rotate_left
    · simp only [Act.put, List.setIfInBounds_toArray, List.set_cons_zero, List.set_cons_succ, i64_w, i32_w]
      rfl
    refine pure_ (i := 4) (N := some 8) (v := ?_) (a' := ?_) #[true, true, true, true, true, false, false, false, false, false, false, false] rfl rfl (by kernel_rfl) (fun _ _ _ h => h) (Or.inl ⟨by rfl, ?_⟩) ?_ ?_
    rotate_left
    · intro w'
      go_simp
      with_reducible rfl
    rotate_left
    · simp only [Act.put, List.setIfInBounds_toArray, List.set_cons_zero, List.set_cons_succ, i64_w, i32_w]
      rfl
    refine pure_ (i := 5) (N := some 9) (v := ?_) (a' := ?_) #[true, true, true, true, true, true, false, false, false, false, false, false] rfl rfl (by kernel_rfl) (fun _ _ _ h => h) (Or.inl ⟨by rfl, ?_⟩) ?_ ?_
    rotate_left
    · intro w'
      go_simp
      with_reducible rfl
    rotate_left
    · simp only [Act.put, List.setIfInBounds_toArray, List.set_cons_zero, List.set_cons_succ, i64_w, i32_w]
      rfl
    refine pure_ (i := 8) (N := some 12) (v := ?_) (a' := ?_) #[true, true, true, true, true, true, false, false, true, false, false, false] rfl rfl (by kernel_rfl) (fun _ _ _ h => h) (Or.inl ⟨by rfl, ?_⟩) ?_ ?_
    rotate_left
    · intro w'
      go_simp
      with_reducible rfl
    rotate_left
    · simp only [Act.put, List.setIfInBounds_toArray, List.set_cons_zero, List.set_cons_succ, i64_w, i32_w]
      rfl
    refine take_ (i := 9) (N := some 13) (v := ?_) (a' := ?_) #[true, true, true, true, true, true, false, false, true, true, false, false] rfl rfl (by kernel_rfl) (fun _ _ _ h => h) (Or.inl ⟨by rfl, ?_⟩) hHeld ?_ ?_
    rotate_left
    · rintro w' ⟨s0, s1, s2⟩
      go_simp
      with_reducible rfl
    rotate_left
    · simp only [Act.put, List.setIfInBounds_toArray, List.set_cons_zero, List.set_cons_succ, i64_w, i32_w]
      rfl
    refine one_ (i := 6) (N := some 10) #[true, true, true, true, true, true, true, false, true, true, false, false] rfl rfl (by kernel_rfl) (by decide) (fun K hK => ?_)
    refine goes_ Try.func21 (by kernel_rfl) rfl #[.slice A4 (l.length - 4) c4] (by rfl) rfl rfl (by simp only [List.map_toArray, List.map_cons, List.map_nil]; rfl) ?_
    with_reducible refine (k1.out _ hHeld.1 HY4.out (by omega)).mono ?_
    rintro e w1 ⟨v1, rfl, ho1, hb1⟩
    refine ⟨_, rfl, ?_⟩
    have hHeld' := hHeld
    obtain ⟨A1, c1, rfl, hc1, hC1⟩ := OB_reads ho1
    obtain ⟨N1, hN1⟩ : ∃ N1, N1 = SS.length := ⟨_, rfl⟩
    rw [← hN1] at hC1 ⊢
    have hcvS := Kd.C_string (P := Try.prog) (c := c1) Try.underlying22 Try.underlying5 Try.underlying9 hC1
    have hb2 := below_step hHeld'.2.2 hb1
    clear hN1 hc1 ho1
    refine hK.out _ _ ⟨(Kd.C_below hHeld'.1 hb1), (Kd.C_string Try.underlying22 Try.underlying5 Try.underlying9 (Kd.C_below HR.out hb2)), hb2⟩ (fun hHeld => ?_)
    clear hK K
    refine norm_ (a' := ?_) ?_ ?_
    rotate_left
    · show Act.put _ (some 10) _ = _
      simp only [Act.put, List.setIfInBounds_toArray, List.set_cons_zero, List.set_cons_succ, i64_w, i32_w]
      rfl
    refine one_ (i := 7) (N := some 11) #[true, true, true, true, true, true, true, true, true, true, false, false] rfl rfl (by kernel_rfl) (by decide) (fun K hK => ?_)
    refine value_ (w1 := ?_) (v := ?_) (by rfl) rfl ?_ ?_
    rotate_left 2
    · go_simp
      constructor
      · rfl
      · rfl
    refine hK.out _ _ ⟨hHeld.1, hHeld.2.1, hHeld.2.2⟩ (fun hHeld => ?_)
    clear hK K
    refine norm_ (a' := ?_) ?_ ?_
    rotate_left
    · show Act.put _ (some 11) _ = _
      simp only [Act.put, List.setIfInBounds_toArray, List.set_cons_zero, List.set_cons_succ, i64_w, i32_w]
      rfl
    refine pure_ (i := 10) (N := some 14) (v := ?_) (a' := ?_) #[true, true, true, true, true, true, true, true, true, true, true, false] rfl rfl (by kernel_rfl) (fun _ _ _ h => h) (Or.inl ⟨by rfl, ?_⟩) ?_ ?_
    rotate_left
    · intro w'
      go_simp
      with_reducible rfl
    rotate_left
    · simp only [Act.put, List.setIfInBounds_toArray, List.set_cons_zero, List.set_cons_succ, i64_w, i32_w]
      rfl
    refine pure_ (i := 11) (N := some 15) (v := ?_) (a' := ?_) #[true, true, true, true, true, true, true, true, true, true, true, true] rfl rfl (by kernel_rfl) (fun _ _ _ h => h) (Or.inl ⟨by rfl, ?_⟩) ?_ ?_
    rotate_left
    · intro w'
      go_simp
      with_reducible rfl
    rotate_left
    · simp only [Act.put, List.setIfInBounds_toArray, List.set_cons_zero, List.set_cons_succ, i64_w, i32_w]
      rfl
    refine done_ (by kernel_rfl) ?_
    rw [HNE.out]
    generalize hq : decide (SS = l) = q at *
    have HQ := Aside0.mk hq
    have hl0 := hHeld.2.2
    have hC5 := Kd.C_below HC4.out hl0
    clear hq k1 HC4 HR HY4 HYS HNE hHeld hcvS
    cases q
    · go_wp2
      go_ret2
      refine ⟨.slice none 0 0, ?_, ?_, hl0⟩
      · rw [e2.out]
        rfl
      · rw [e1.out, if_neg (of_decide_eq_false HQ.out)]
        exact Kd.R_nil _ _ _ _ _
    · go_wp2_with (at_builtin; go_must (refine Kd.R_append_rows (Kd.int .u8) (Rr := (Kd.int .u8).K w1) (w0 := w) w.heap.size rfl _ _ 22 5 (.int .u8 0) 1 rfl Try.underlying22 infoB rfl (by decide) (by decide) (.slice none 0 0) [] (l.drop 4) A4 (l.length - 4) c4 (fun _ => True) (fun _ => True) rfl rfl (Kd.R_nil _ _ _ _ _) hC5 (fun x cs h => h) (fun k _ => ⟨trivial, by simp [Value.ownBlock]⟩) (fun _ _ => trivial) hl0 hl0.size (by simp; omega) ?_); intro v2 w2 ho2 hb2 _ _)
      go_ret2
      refine ⟨v2, ?_, ?_, hb2⟩
      · rw [e2.out]
        rfl
      · rw [e1.out, if_pos (of_decide_eq_true HQ.out)]
        simpa using ho2
end Go.Proofs.Ytcgmnmohpkolmaa
