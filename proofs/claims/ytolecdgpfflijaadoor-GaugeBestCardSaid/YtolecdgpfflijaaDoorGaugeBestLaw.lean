/- law01's GaugeBest. -/
import Derived.Test.YtolecdgpfflijaaDoorGaugeWakes
import Derived.Test.YtolecdgpfflijaaDoorRefGauge
namespace Go.Proofs.YtolecdgpfflijaaDoor
open Go.RowKit Go.Proofs.YtolecdgpfflijaaDoorW.PrintWords Go.Proofs.YtolecdgpfflijaaDoorW.PrintLast Go.Proofs.YtolecdgpfflijaaDoorW.PrintMore
set_option linter.unusedVariables false
set_option linter.unusedSimpArgs false
set_option maxRecDepth 1000000
theorem infoF : (Tryd.prog.info? 24).map (fun i => (i.zero, i.size, i.bytes)) = some (some (.float .f64 0), 1, 8) := by kernel_rfl
/-- An own row of floats. -/
abbrev OF (w : World) (base : Nat) (v : Value) (l : List Nat) : Prop := KF.R 24 w base (fun _ => True) v l
set_option maxHeartbeats 8000000 in
theorem gaugeBest_calls (A0 : Option Addr) (n0 c0 : Nat) (l0 : List Int) (A1 : Option Addr) (n1 c1 : Nat) (l1 : List Int) (A2 : Option Addr) (n2 c2 : Nat) (l2 : List Int) (x : Nat) (w : World)
    (hr0 : Kd.C (Kd.int .i64) w A0 n0 l0) (hr1 : Kd.C (Kd.int .i64) w A1 n1 l1) (hr2 : Kd.C (Kd.int .i64) w A2 n2 l2) (hx : x < 18446744073709551616) (ht : Tens w) :
    Calls Tryd.prog 5 #[.slice A0 n0 c0, .slice A1 n1 c1, .slice A2 n2 c2, .float .f64 x] w fun e w' => e = .returned (.bool true) ∧ Below w.heap.size w w' := by
  have HR0 := Aside0.mk hr0
  have HR1 := Aside0.mk hr1
  have HR2 := Aside0.mk hr2
  have HT := Aside0.mk ht
  have HX := Aside0.mk hx
  have HM0 := Aside0.mk (Kd.C_max hr0)
  have HM1 := Aside0.mk (Kd.C_max hr1)
  have HM2 := Aside0.mk (Kd.C_max hr2)
  clear hr0 hr1 hr2 ht hx
  go_enter Tryd.func5, Tryd.ntmps5
  go_wp2
  go_loopw [9, 10] (fun v i wr => ∃ (k : Nat) (xs : List Nat) (v0 : Value), k ≤ 9 ∧ v0 = v ∧ i = .int .i64 k ∧ Aside0 (xs.length = k) ∧ Aside0 (∀ y ∈ xs, y < 18446744073709551616) ∧ Aside0 (OF wr w.heap.size v0 xs) ∧ Aside0 (Below w.heap.size w wr)) (fun _ i _ => 9 - (intOf i).toNat)
  case atStart => exact ⟨0, [], _, by omega, rfl, rfl, ⟨rfl⟩, ⟨by intro y hy; simp at hy⟩, ⟨Kd.R_nil _ _ _ _ _⟩, ⟨Below.refl _ _⟩⟩
  case round =>
    obtain ⟨k, xs, v0, hk, rfl, rfl, HLN, HALL, HO, HBK⟩ := hrel
    have hm0 := HM0.out
    have hm1 := HM1.out
    have hm2 := HM2.out
    go_upto_region 3 with (fail)
    go_cut [30] (fun s wx => s = .bool (decide (k < n0) && decide (k < n1) && decide (k < n2) && decide (k < 9)) ∧ Aside0 (wx = wr))
    case first =>
      by_cases q1 : k < n0
      · by_cases q2 : k < n1
        · by_cases q3 : k < n2
          · by_cases q0 : k < 9
            · go_wp2
              go_meet
              exact ⟨by simp [q1, q2, q3]; omega, ⟨rfl⟩⟩
            · go_wp2
              go_meet
              exact ⟨by simp [q1, q2, q3]; omega, ⟨rfl⟩⟩
          · go_wp2
            go_meet
            exact ⟨by simp [q1, q2, q3], ⟨rfl⟩⟩
        · go_wp2
          go_meet
          exact ⟨by simp [q1, q2], ⟨rfl⟩⟩
      · go_wp2
        go_meet
        exact ⟨by simp [q1], ⟨rfl⟩⟩
    rotate_left
    obtain ⟨rfl, hwx⟩ := hcut
    obtain ⟨rfl⟩ := hwx
    by_cases hlt : (k < n0 ∧ k < n1 ∧ k < n2 ∧ k < 9)
    · obtain ⟨q1, q2, q3, q0⟩ := hlt
      rw [show (decide (k < n0) && decide (k < n1) && decide (k < n2) && decide (k < 9)) = true from by simp [q0, q1, q2, q3]]
      have k0 : (0 : Int) ≤ (k : Int) := by omega
      have k2 : (k : Int) < n0 := by omega
      have k3 : (k : Int) < n1 := by omega
      have k4 : (k : Int) < n2 := by omega
      obtain ⟨ad0, rfl, h0⟩ := Kd.at_int (Kd.C_below HR0.out HBK.out) k k0 k2
      obtain ⟨ad1, rfl, h1⟩ := Kd.at_int (Kd.C_below HR1.out HBK.out) k k0 k3
      obtain ⟨ad2, rfl, h2⟩ := Kd.at_int (Kd.C_below HR2.out HBK.out) k k0 k4
      rw [Int.toNat_natCast] at h0 h1 h2
      generalize rd l0 k = i0 at *
      generalize rd l1 k = i1 at *
      generalize rd l2 k = i2 at *
      go_wp2
      refine start_ (n := 18) (S := fun w' => w'.cell? (ad0.add k) = some (.int .i64 i0) ∧ w'.cell? (ad1.add k) = some (.int .i64 i1) ∧ w'.cell? (ad2.add k) = some (.int .i64 i2)) (ds := [16]) #[false, false, false, false, false, false, false, false, false, false, false, false, false, false, false, false, false, false] (by kernel_rfl) rfl rfl ⟨h0, h1, h2⟩ (fun hHeld => ?_)
      refine pure_ (i := 0) (N := some 33) (v := ?_) (a' := ?_) #[true, false, false, false, false, false, false, false, false, false, false, false, false, false, false, false, false, false] rfl rfl (by kernel_rfl) (fun _ _ _ h => h) (Or.inl ⟨by rfl, ?_⟩) ?_ ?_
      rotate_left
      · intro w'
        go_simp
        with_reducible rfl
      rotate_left
      · simp only [Act.put, List.setIfInBounds_toArray, List.set_cons_zero, List.set_cons_succ, i64_w, i32_w]
        rfl
      refine pure_ (i := 1) (N := some 34) (v := ?_) (a' := ?_) #[true, true, false, false, false, false, false, false, false, false, false, false, false, false, false, false, false, false] rfl rfl (by kernel_rfl) (fun _ _ _ h => h) (Or.inl ⟨by rfl, ?_⟩) ?_ ?_
      rotate_left
      · intro w'
        go_simp
        with_reducible rfl
      rotate_left
      · simp only [Act.put, List.setIfInBounds_toArray, List.set_cons_zero, List.set_cons_succ, i64_w, i32_w]
        rfl
      refine pure_ (i := 2) (N := some 35) (v := ?_) (a' := ?_) #[true, true, true, false, false, false, false, false, false, false, false, false, false, false, false, false, false, false] rfl rfl (by kernel_rfl) (fun _ _ _ h => h) (Or.inl ⟨by rfl, ?_⟩) ?_ ?_
      rotate_left
      · intro w'
        go_simp
        with_reducible rfl
      rotate_left
      · simp only [Act.put, List.setIfInBounds_toArray, List.set_cons_zero, List.set_cons_succ, i64_w, i32_w]
        rfl
      refine pure_ (i := 3) (N := some 36) (v := ?_) (a' := ?_) #[true, true, true, true, false, false, false, false, false, false, false, false, false, false, false, false, false, false] rfl rfl (by kernel_rfl) (fun _ _ _ h => h) (Or.inl ⟨by rfl, ?_⟩) ?_ ?_
      rotate_left
      · intro w'
        go_simp
        with_reducible rfl
      rotate_left
      · simp only [Act.put, List.setIfInBounds_toArray, List.set_cons_zero, List.set_cons_succ, i64_w, i32_w]
        rfl
      refine pure_ (i := 5) (N := some 38) (v := ?_) (a' := ?_) #[true, true, true, true, false, true, false, false, false, false, false, false, false, false, false, false, false, false] rfl rfl (by kernel_rfl) (fun _ _ _ h => h) (Or.inl ⟨by rfl, ?_⟩) ?_ ?_
      rotate_left
      · intro w'
        go_simp
        with_reducible rfl
      rotate_left
      · simp only [Act.put, List.setIfInBounds_toArray, List.set_cons_zero, List.set_cons_succ, i64_w, i32_w]
        rfl
      refine pure_ (i := 6) (N := some 39) (v := ?_) (a' := ?_) #[true, true, true, true, false, true, true, false, false, false, false, false, false, false, false, false, false, false] rfl rfl (by kernel_rfl) (fun _ _ _ h => h) (Or.inl ⟨by rfl, ?_⟩) ?_ ?_
      rotate_left
      · intro w'
        go_simp
        with_reducible rfl
      rotate_left
      · simp only [Act.put, List.setIfInBounds_toArray, List.set_cons_zero, List.set_cons_succ, i64_w, i32_w]
        rfl
      refine pure_ (i := 7) (N := some 40) (v := ?_) (a' := ?_) #[true, true, true, true, false, true, true, true, false, false, false, false, false, false, false, false, false, false] rfl rfl (by kernel_rfl) (fun _ _ _ h => h) (Or.inl ⟨by rfl, ?_⟩) ?_ ?_
      rotate_left
      · intro w'
        go_simp
        with_reducible rfl
      rotate_left
      · simp only [Act.put, List.setIfInBounds_toArray, List.set_cons_zero, List.set_cons_succ, i64_w, i32_w]
        rfl
      refine pure_ (i := 9) (N := some 42) (v := ?_) (a' := ?_) #[true, true, true, true, false, true, true, true, false, true, false, false, false, false, false, false, false, false] rfl rfl (by kernel_rfl) (fun _ _ _ h => h) (Or.inl ⟨by rfl, ?_⟩) ?_ ?_
      rotate_left
      · intro w'
        go_simp
        with_reducible rfl
      rotate_left
      · simp only [Act.put, List.setIfInBounds_toArray, List.set_cons_zero, List.set_cons_succ, i64_w, i32_w]
        rfl
      refine pure_ (i := 10) (N := some 43) (v := ?_) (a' := ?_) #[true, true, true, true, false, true, true, true, false, true, true, false, false, false, false, false, false, false] rfl rfl (by kernel_rfl) (fun _ _ _ h => h) (Or.inl ⟨by rfl, ?_⟩) ?_ ?_
      rotate_left
      · intro w'
        go_simp
        with_reducible rfl
      rotate_left
      · simp only [Act.put, List.setIfInBounds_toArray, List.set_cons_zero, List.set_cons_succ, i64_w, i32_w]
        rfl
      refine pure_ (i := 11) (N := some 44) (v := ?_) (a' := ?_) #[true, true, true, true, false, true, true, true, false, true, true, true, false, false, false, false, false, false] rfl rfl (by kernel_rfl) (fun _ _ _ h => h) (Or.inl ⟨by rfl, ?_⟩) ?_ ?_
      rotate_left
      · intro w'
        go_simp
        with_reducible rfl
      rotate_left
      · simp only [Act.put, List.setIfInBounds_toArray, List.set_cons_zero, List.set_cons_succ, i64_w, i32_w]
        rfl
      refine pure_ (i := 13) (N := some 46) (v := ?_) (a' := ?_) #[true, true, true, true, false, true, true, true, false, true, true, true, false, true, false, false, false, false] rfl rfl (by kernel_rfl) (fun _ _ _ h => h) (Or.inl ⟨by rfl, ?_⟩) ?_ ?_
      rotate_left
      · intro w'
        go_simp
        with_reducible rfl
      rotate_left
      · simp only [Act.put, List.setIfInBounds_toArray, List.set_cons_zero, List.set_cons_succ, i64_w, i32_w]
        rfl
      refine take_ (i := 4) (N := some 37) (v := ?_) (a' := ?_) #[true, true, true, true, true, true, true, true, false, true, true, true, false, true, false, false, false, false] rfl rfl (by kernel_rfl) (fun _ _ _ h => h) (Or.inl ⟨by rfl, ?_⟩) hHeld ?_ ?_
      rotate_left
      · rintro w' ⟨s0, s1, s2⟩
        go_simp
        with_reducible rfl
      rotate_left
      · simp only [Act.put, List.setIfInBounds_toArray, List.set_cons_zero, List.set_cons_succ, i64_w, i32_w]
        rfl
      refine take_ (i := 8) (N := some 41) (v := ?_) (a' := ?_) #[true, true, true, true, true, true, true, true, true, true, true, true, false, true, false, false, false, false] rfl rfl (by kernel_rfl) (fun _ _ _ h => h) (Or.inl ⟨by rfl, ?_⟩) hHeld ?_ ?_
      rotate_left
      · rintro w' ⟨s0, s1, s2⟩
        go_simp
        with_reducible rfl
      rotate_left
      · simp only [Act.put, List.setIfInBounds_toArray, List.set_cons_zero, List.set_cons_succ, i64_w, i32_w]
        rfl
      refine take_ (i := 12) (N := some 45) (v := ?_) (a' := ?_) #[true, true, true, true, true, true, true, true, true, true, true, true, true, true, false, false, false, false] rfl rfl (by kernel_rfl) (fun _ _ _ h => h) (Or.inl ⟨by rfl, ?_⟩) hHeld ?_ ?_
      rotate_left
      · rintro w' ⟨s0, s1, s2⟩
        go_simp
        with_reducible rfl
      rotate_left
      · simp only [Act.put, List.setIfInBounds_toArray, List.set_cons_zero, List.set_cons_succ, i64_w, i32_w]
        rfl
      refine one_ (i := 14) (N := some 47) #[true, true, true, true, true, true, true, true, true, true, true, true, true, true, true, false, false, false] rfl rfl (by kernel_rfl) (by decide) (fun K hK => ?_)
      refine goes_ Tryd.func15 (by kernel_rfl) rfl #[.int .i64 i0, .int .i64 i1, .int .i64 i2, .float .f64 x] (by rfl) rfl rfl (by simp only [List.map_toArray, List.map_cons, List.map_nil]; rfl) ?_
      with_reducible refine (x_calls i0 i1 i2 x _ HX.out).mono ?_
      rintro e w3 ⟨r, rfl, hr, hd⟩
      refine ⟨_, rfl, ?_⟩
      have hh := hHeld
      have HQ := Aside0.mk hr
      have HB3 := Aside0.mk (below_step (below_step HBK.out (below_drew (Below.refl _ _))) hd.below)
      have HO3 := Aside0.mk (Kd.R_below (Kd.R_drew HO.out) hd.below)
      have hc3a := pw_cell_below hd.below hh.1
      have hc3b := pw_cell_below hd.below hh.2.1
      have hc3c := pw_cell_below hd.below hh.2.2
      clear hr hd
      refine hK.out _ _ ⟨hc3a, hc3b, hc3c⟩ (fun hHeld => ?_)
      clear hK K
      refine norm_ (a' := ?_) ?_ ?_
      rotate_left
      · show Act.put _ (some 47) _ = _
        simp only [Act.put, List.setIfInBounds_toArray, List.set_cons_zero, List.set_cons_succ, i64_w, i32_w]
        rfl
      refine one_ (i := 15) (N := some 48) #[true, true, true, true, true, true, true, true, true, true, true, true, true, true, true, true, false, false] rfl rfl (by kernel_rfl) (by decide) (fun K hK => ?_)
      refine value_ (w1 := ?_) (v := ?_) (by rfl) rfl ?_ ?_
      rotate_left 2
      · go_simp
        constructor
        · rfl
        · rfl
      refine hK.out _ _ ⟨(pw_cell_below (below_alloc (Below.refl _ _) _) hHeld.1), (pw_cell_below (below_alloc (Below.refl _ _) _) hHeld.2.1), (pw_cell_below (below_alloc (Below.refl _ _) _) hHeld.2.2)⟩ (fun hHeld => ?_)
      clear hK K
      refine norm_ (a' := ?_) ?_ ?_
      rotate_left
      · show Act.put _ (some 48) _ = _
        simp only [Act.put, List.setIfInBounds_toArray, List.set_cons_zero, List.set_cons_succ, i64_w, i32_w]
        rfl
      refine last_ (i := 16) (N := some 49) #[true, true, true, true, true, true, true, true, true, true, true, true, true, true, true, true, true, false] rfl rfl (by kernel_rfl) (by decide) (fun K hK => ?_)
      refine Kd.R_append_step KF (w0 := w) w.heap.size (by rfl) (.tmp 33) (.tmp 48) 33 24 (.float .f64 0) 8 rfl Tryd.underlying33 infoF rfl (by decide) (by decide) v0 xs r [.float .f64 r] (fun _ => True) (fun _ => False) rfl rfl rfl (fun _ h => h.elim) (fun _ _ => trivial) HO3.out HB3.out HB3.out.size (by rw [HLN.out]; omega) ?_
      intro v1 w4 ho4 hb4 hg4 hn4
      refine hK.out _ _ ?_
      clear hK K
      refine norm_ (a' := ?_) ?_ ?_
      rotate_left
      · show Act.put _ (some 49) _ = _
        simp only [Act.put, List.setIfInBounds_toArray, List.set_cons_zero, List.set_cons_succ, i64_w, i32_w]
        rfl
      refine pure_ (i := 17) (N := some 9) (v := ?_) (a' := ?_) #[true, true, true, true, true, true, true, true, true, true, true, true, true, true, true, true, true, true] rfl rfl (by kernel_rfl) (fun _ _ _ h => h) (Or.inl ⟨by rfl, ?_⟩) ?_ ?_
      rotate_left
      · intro w'
        go_simp
        with_reducible rfl
      rotate_left
      · simp only [Act.put, List.setIfInBounds_toArray, List.set_cons_zero, List.set_cons_succ, i64_w, i32_w]
        rfl
      refine done_ (by kernel_rfl) ?_
      have HO4 := Aside0.mk ho4
      have HB4 := Aside0.mk hb4
      clear ho4 hb4 hg4 hn4 hh h0 h1 h2 hc3a hc3b hc3c hHeld
      go_wp2
      go_roundw
      case rel => exact ⟨k + 1, xs ++ [r], v1, by omega, rfl, by go_num, ⟨by rw [List.length_append, HLN.out]; rfl⟩, ⟨by intro y hy; rcases List.mem_append.1 hy with h | h; exact HALL.out y h; rw [List.mem_singleton.1 h]; exact HQ.out⟩, HO4, HB4⟩
      case measure => simp [intOf]; omega
    · rw [show (decide (k < n0) && decide (k < n1) && decide (k < n2) && decide (k < 9)) = false from by simp; omega]
      obtain ⟨A3, c3, rfl, hc3, hC3⟩ := Kd.R_reads HO.out
      rw [HLN.out] at hC3 ⊢
      have HC3 := Aside0.mk hC3
      clear HO hc3 hC3 hlt
      go_wp2_with fail
      ((with_reducible refine (best_calls A3 k c3 xs _ HC3.out HALL.out).mono ?_); rintro e w5 ⟨rfl, hd5⟩)
      have HB5 := Aside0.mk (below_step HBK.out hd5.below)
      have HC5 := Aside0.mk (Kd.C_below HC3.out hd5.below)
      clear hd5
      go_wp2_with fail
      ((with_reducible refine (rbest_calls A3 k c3 xs _ HC5.out HALL.out).mono ?_); rintro e w6 ⟨rfl, hd6⟩)
      have HB6 := Aside0.mk (below_step HB5.out hd6.below)
      clear hd6
      generalize bestAt xs k = b at *
      have hbb : (b == b) = true := by simp
      go_wp2_with fail
      ((with_reducible refine (wakes01_calls _ (HT.out.below HB6.out)).mono ?_); rintro e w7 ⟨rfl, hb7⟩)
      go_wp2
      go_ret
      exact ⟨rfl, below_step HB6.out hb7⟩
theorem gaugeBest_law (A0 : Option Addr) (c0 : Nat) (l0 : List Int) (A1 : Option Addr) (c1 : Nat) (l1 : List Int) (A2 : Option Addr) (c2 : Nat) (l2 : List Int) (x : Nat) (w : World) (hL : laidMetH Tryd.prog Rows.gaugeBestRow.laid w)
    (hr0 : Kd.C (Kd.int .i64) w A0 l0.length l0) (hc0 : l0.length ≤ c0) (hy0 : l0.length * 8 ≤ 140737488351232) (hw0 : ∀ x ∈ l0, (Lit.int .i64 x).wf = true)
    (hr1 : Kd.C (Kd.int .i64) w A1 l1.length l1) (hc1 : l1.length ≤ c1) (hy1 : l1.length * 8 ≤ 140737488351232) (hw1 : ∀ x ∈ l1, (Lit.int .i64 x).wf = true)
    (hr2 : Kd.C (Kd.int .i64) w A2 l2.length l2) (hc2 : l2.length ≤ c2) (hy2 : l2.length * 8 ≤ 140737488351232) (hw2 : ∀ x ∈ l2, (Lit.int .i64 x).wf = true)
    (hx : (Lit.float .f64 x).wf = true) :
    Calls Tryd.prog 5 #[.slice A0 l0.length c0, .slice A1 l1.length c1, .slice A2 l2.length c2, .float .f64 x] w fun e w' => e = .returned (.bool true) ∧ Below w.heap.size w w' :=
  gaugeBest_calls A0 _ c0 l0 A1 _ c1 l1 A2 _ c2 l2 x w hr0 hr1 hr2 (of_decide_eq_true hx) (tens_of_laid hL)
end Go.Proofs.YtolecdgpfflijaaDoor
