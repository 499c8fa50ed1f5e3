/- law01's GaugeOrder. -/
import Derived.Test.YtolecdgpfflijaaDoorGaugeWakes
import Derived.Test.YtolecdgpfflijaaDoorGaugeBest
namespace Go.Proofs.YtolecdgpfflijaaDoor
open Go.RowKit Go.Proofs.YtolecdgpfflijaaDoorW.PrintWords Go.Proofs.YtolecdgpfflijaaDoorW.PrintLast Go.Proofs.YtolecdgpfflijaaDoorW.PrintMore
set_option linter.unusedVariables false
set_option linter.unusedSimpArgs false
set_option maxRecDepth 1000000
abbrev KI (w : World) (A : Option Addr) (n : Nat) (l : List Int) : Prop := Kd.C (Kd.int .i64) w A n l
theorem run_store_float {P : Program} {w : World} {a : Addr} {m : Mode} (b : Nat) : (store a (.float .f64 b) m).run P w = stored P w a (.float .f64 b) m := run_store P w a _ m rfl
attribute [local go_sem] run_store_float
/-- A new row of floats. -/
theorem kf_new {w : World} {g : Nat} {t : TypeId} (l : List Nat) (n : Nat) (hn : l.length = n) (hl : n < 100) (h : w.heap[g]? = some (.cells (l.map (Value.float .f64)).toArray t (0, 0))) : KF.C w (some ⟨g, 0, none⟩) n l := by
  refine Kd.C_of_reads (enc := Value.float .f64) (d := (0 : Nat)) ⟨hn, by omega, fun _ => ⟨_, rfl, fun j hj => ?_⟩⟩
  have := blk_cell h j
  rw [show (⟨g, 0, none⟩ : Addr).add j = ⟨g, j, none⟩ from by simp [Addr.add]; intro h; exact h.symm]
  rw [this]
  simp [List.getD_eq_getElem?_getD, List.getElem?_map, List.getElem?_eq_getElem (show j < l.length by omega)]
/-- How many of three are true, of the first j. -/
def tri (a b c : Bool) (j : Nat) : Bool := match j with | 0 => a | 1 => b | _ => c
def cnt (t : Nat → Bool) : Nat → Int
  | 0 => 0
  | j + 1 => if t j = true then cnt t j + 1 else cnt t j
theorem cnt_in (t : Nat → Bool) (j : Nat) : 0 ≤ cnt t j ∧ cnt t j ≤ j := by
  induction j with
  | zero => simp [cnt]
  | succ j ih => rw [cnt]; split <;> omega
/-- Of two one is ahead, or they are as good. -/
theorem cnt_keys (x y : Int) : cnt (tri (decide (x < y)) (decide (y < x)) (decide (x = y))) 3 = 1 := by
  rcases Int.lt_trichotomy x y with h | h | h
  · rw [decide_eq_true h, decide_eq_false (by omega), decide_eq_false (by omega)]; rfl
  · rw [decide_eq_false (by omega), decide_eq_false (by omega), decide_eq_true h]; rfl
  · rw [decide_eq_false (by omega), decide_eq_true h, decide_eq_false (by omega)]; rfl
theorem best_nan2 {r : Nat} (h : nanB r = true) : bestAt [r, r] 2 = -1 := by
  have h1 : ∀ (b : Int) (k : Nat), k < 2 → bestT [r, r] b k = false := fun b k hk => by
    unfold bestT
    have e : rdOf 0 [r, r] (k : Int) = r := by
      rcases k with _ | _ | k
      · rfl
      · rfl
      · omega
    rw [e, h]
    rfl
  rw [bestAt, h1 _ 1 (by omega), bestAt, h1 _ 0 (by omega)]
  rfl
set_option maxHeartbeats 8000000 in
theorem gaugeOrder_calls (A0 : Option Addr) (n0 c0 : Nat) (l0 : List Int) (A1 : Option Addr) (n1 c1 : Nat) (l1 : List Int) (A2 : Option Addr) (n2 c2 : Nat) (l2 : List Int) (x y z : Nat) (w : World)
    (hr0 : KI w A0 n0 l0) (hr1 : KI w A1 n1 l1) (hr2 : KI w A2 n2 l2) (hx : x < 18446744073709551616) (hy : y < 18446744073709551616) (hz : z < 18446744073709551616) (ht : Tens w) :
    Calls Tryd.prog 7 #[.slice A0 n0 c0, .slice A1 n1 c1, .slice A2 n2 c2, .float .f64 x, .float .f64 y, .float .f64 z] w fun e w' => e = .returned (.bool true) ∧ Below w.heap.size w w' := by
  have HR0 := Aside0.mk hr0
  have HR1 := Aside0.mk hr1
  have HR2 := Aside0.mk hr2
  have HT := Aside0.mk ht
  have HZ := Aside0.mk (heap_alloc_new w (.cells #[.float .f64 x, .float .f64 y, .float .f64 z] 24))
  have HB := Aside0.mk (below_alloc (Below.refl _ w) (.cells #[.float .f64 x, .float .f64 y, .float .f64 z] 24))
  have HX := Aside0.mk hx
  have HY := Aside0.mk hy
  have HW := Aside0.mk hz
  have HM0 := Aside0.mk (Kd.C_max hr0)
  have HM1 := Aside0.mk (Kd.C_max hr1)
  have HM2 := Aside0.mk (Kd.C_max hr2)
  clear hr0 hr1 hr2 ht hx hy hz
  go_enter Tryd.func7, Tryd.ntmps7
  go_wp2
  go_loopw [14] (fun i wr => ∃ (k : Nat) (x y z : Nat), k ≤ 3 ∧ i = .int .i64 k ∧ Aside0 (x < 18446744073709551616) ∧ Aside0 (y < 18446744073709551616) ∧ Aside0 (z < 18446744073709551616) ∧ Aside0 (wr.heap[w.heap.size]? = some (.cells #[.float .f64 x, .float .f64 y, .float .f64 z] 24 (0, 0))) ∧ Aside0 (Below w.heap.size w wr)) (fun i _ => 3 - (intOf i).toNat)
  case atStart => exact ⟨0, x, y, z, by omega, rfl, HX, HY, HW, HZ, HB⟩
  case round =>
    obtain ⟨k, x1, y1, z1, hk, rfl, HX1, HY1, HZ1, HC, HBK⟩ := hrel
    clear HZ HB HX HY HW
    have hm0 := HM0.out
    have hm1 := HM1.out
    have hm2 := HM2.out
    go_upto_region 3 with (fail)
    go_cut [45] (fun s wx => s = .bool (decide (k < 3) && decide (k < n0) && decide (k < n1) && decide (k < n2)) ∧ Aside0 (wx = wr))
    case first =>
      by_cases q0 : k < 3
      · by_cases q1 : k < n0
        · by_cases q2 : k < n1
          · by_cases q3 : k < n2
            · go_wp2
              go_meet
              exact ⟨by simp [q0, q1, q2, q3], ⟨rfl⟩⟩
            · go_wp2
              go_meet
              exact ⟨by simp [q0, q1, q2, q3], ⟨rfl⟩⟩
          · go_wp2
            go_meet
            exact ⟨by simp [q0, q1, q2], ⟨rfl⟩⟩
        · go_wp2
          go_meet
          exact ⟨by simp [q0, q1], ⟨rfl⟩⟩
      · go_wp2
        go_meet
        exact ⟨by simp [q0], ⟨rfl⟩⟩
    rotate_left
    obtain ⟨rfl, hwx⟩ := hcut
    obtain ⟨rfl⟩ := hwx
    by_cases hlt : (k < 3 ∧ k < n0 ∧ k < n1 ∧ k < n2)
    · obtain ⟨q0, q1, q2, q3⟩ := hlt
      rw [show (decide (k < 3) && decide (k < n0) && decide (k < n1) && decide (k < n2)) = true from by simp [q0, q1, q2, q3]]
      have k0 : (0 : Int) ≤ (k : Int) := by omega
      have k1 : (k : Int) < 3 := by omega
      have k2 : (k : Int) < n0 := by omega
      have k3 : (k : Int) < n1 := by omega
      have k4 : (k : Int) < n2 := by omega
      obtain ⟨ad0, rfl, h0⟩ := Kd.at_int (Kd.C_below HR0.out HBK.out) k k0 k2
      obtain ⟨ad1, rfl, h1⟩ := Kd.at_int (Kd.C_below HR1.out HBK.out) k k0 k3
      obtain ⟨ad2, rfl, h2⟩ := Kd.at_int (Kd.C_below HR2.out HBK.out) k k0 k4
      rw [Int.toNat_natCast] at h0 h1 h2
      generalize rd l0 k = i0 at *
      generalize rd l1 k = i1 at *
      generalize rd l2 k = i2 at *
      obtain ⟨u, hu, hcu⟩ : ∃ u, u < 18446744073709551616 ∧ wc.cell? ⟨w.heap.size, k, none⟩ = some (.float .f64 u) := by
        have hb := blk_cell HC.out k
        rcases (by omega : k = 0 ∨ k = 1 ∨ k = 2) with rfl | rfl | rfl
        · exact ⟨x1, HX1.out, hb⟩
        · exact ⟨y1, HY1.out, hb⟩
        · exact ⟨z1, HZ1.out, hb⟩
      have hfr := blk_frozen HC.out k
      have HU := Aside0.mk hu
      clear hu
      go_wp2
      refine start_ (n := 21) (S := fun w' => w'.cell? (ad0.add k) = some (.int .i64 i0) ∧ w'.cell? (ad1.add k) = some (.int .i64 i1) ∧ w'.cell? (ad2.add k) = some (.int .i64 i2) ∧ w'.cell? ⟨w.heap.size, k, none⟩ = some (.float .f64 u) ∧ w'.frozen? ⟨w.heap.size, k, none⟩ = false) (ds := [18, 20]) #[false, false, false, false, false, false, false, false, false, false, false, false, false, false, false, false, false, false, false, false, false] (by kernel_rfl) rfl rfl ⟨h0, h1, h2, hcu, hfr⟩ (fun hHeld => ?_)
      refine pure_ (i := 0) (N := some 48) (v := ?_) (a' := ?_) #[true, false, false, false, false, false, false, false, false, false, false, false, false, false, false, false, false, false, false, false, false] rfl rfl (by kernel_rfl) (fun _ _ _ h => h) (Or.inl ⟨by rfl, ?_⟩) ?_ ?_
      rotate_left
      · intro w'
        go_simp
        with_reducible rfl
      rotate_left
      · simp only [Act.put, List.setIfInBounds_toArray, List.set_cons_zero, List.set_cons_succ, i64_w, i32_w]
        rfl
      refine pure_ (i := 1) (N := some 49) (v := ?_) (a' := ?_) #[true, true, false, false, false, false, false, false, false, false, false, false, false, false, false, false, false, false, false, false, false] rfl rfl (by kernel_rfl) (fun _ _ _ h => h) (Or.inl ⟨by rfl, ?_⟩) ?_ ?_
      rotate_left
      · intro w'
        go_simp
        with_reducible rfl
      rotate_left
      · simp only [Act.put, List.setIfInBounds_toArray, List.set_cons_zero, List.set_cons_succ, i64_w, i32_w]
        rfl
      refine pure_ (i := 2) (N := some 50) (v := ?_) (a' := ?_) #[true, true, true, false, false, false, false, false, false, false, false, false, false, false, false, false, false, false, false, false, false] rfl rfl (by kernel_rfl) (fun _ _ _ h => h) (Or.inl ⟨by rfl, ?_⟩) ?_ ?_
      rotate_left
      · intro w'
        go_simp
        with_reducible rfl
      rotate_left
      · simp only [Act.put, List.setIfInBounds_toArray, List.set_cons_zero, List.set_cons_succ, i64_w, i32_w]
        rfl
      refine pure_ (i := 3) (N := some 51) (v := ?_) (a' := ?_) #[true, true, true, true, false, false, false, false, false, false, false, false, false, false, false, false, false, false, false, false, false] rfl rfl (by kernel_rfl) (fun _ _ _ h => h) (Or.inl ⟨by rfl, ?_⟩) ?_ ?_
      rotate_left
      · intro w'
        go_simp
        with_reducible rfl
      rotate_left
      · simp only [Act.put, List.setIfInBounds_toArray, List.set_cons_zero, List.set_cons_succ, i64_w, i32_w]
        rfl
      refine pure_ (i := 4) (N := some 52) (v := ?_) (a' := ?_) #[true, true, true, true, true, false, false, false, false, false, false, false, false, false, false, false, false, false, false, false, false] rfl rfl (by kernel_rfl) (fun _ _ _ h => h) (Or.inl ⟨by rfl, ?_⟩) ?_ ?_
      rotate_left
      · intro w'
        go_simp
        with_reducible rfl
      rotate_left
      · simp only [Act.put, List.setIfInBounds_toArray, List.set_cons_zero, List.set_cons_succ, i64_w, i32_w]
        rfl
      refine pure_ (i := 6) (N := some 54) (v := ?_) (a' := ?_) #[true, true, true, true, true, false, true, false, false, false, false, false, false, false, false, false, false, false, false, false, false] rfl rfl (by kernel_rfl) (fun _ _ _ h => h) (Or.inl ⟨by rfl, ?_⟩) ?_ ?_
      rotate_left
      · intro w'
        go_simp
        with_reducible rfl
      rotate_left
      · simp only [Act.put, List.setIfInBounds_toArray, List.set_cons_zero, List.set_cons_succ, i64_w, i32_w]
        rfl
      refine pure_ (i := 7) (N := some 55) (v := ?_) (a' := ?_) #[true, true, true, true, true, false, true, true, false, false, false, false, false, false, false, false, false, false, false, false, false] rfl rfl (by kernel_rfl) (fun _ _ _ h => h) (Or.inl ⟨by rfl, ?_⟩) ?_ ?_
      rotate_left
      · intro w'
        go_simp
        with_reducible rfl
      rotate_left
      · simp only [Act.put, List.setIfInBounds_toArray, List.set_cons_zero, List.set_cons_succ, i64_w, i32_w]
        rfl
      refine pure_ (i := 8) (N := some 56) (v := ?_) (a' := ?_) #[true, true, true, true, true, false, true, true, true, false, false, false, false, false, false, false, false, false, false, false, false] rfl rfl (by kernel_rfl) (fun _ _ _ h => h) (Or.inl ⟨by rfl, ?_⟩) ?_ ?_
      rotate_left
      · intro w'
        go_simp
        with_reducible rfl
      rotate_left
      · simp only [Act.put, List.setIfInBounds_toArray, List.set_cons_zero, List.set_cons_succ, i64_w, i32_w]
        rfl
      refine pure_ (i := 10) (N := some 58) (v := ?_) (a' := ?_) #[true, true, true, true, true, false, true, true, true, false, true, false, false, false, false, false, false, false, false, false, false] rfl rfl (by kernel_rfl) (fun _ _ _ h => h) (Or.inl ⟨by rfl, ?_⟩) ?_ ?_
      rotate_left
      · intro w'
        go_simp
        with_reducible rfl
      rotate_left
      · simp only [Act.put, List.setIfInBounds_toArray, List.set_cons_zero, List.set_cons_succ, i64_w, i32_w]
        rfl
      refine pure_ (i := 11) (N := some 59) (v := ?_) (a' := ?_) #[true, true, true, true, true, false, true, true, true, false, true, true, false, false, false, false, false, false, false, false, false] rfl rfl (by kernel_rfl) (fun _ _ _ h => h) (Or.inl ⟨by rfl, ?_⟩) ?_ ?_
      rotate_left
      · intro w'
        go_simp
        with_reducible rfl
      rotate_left
      · simp only [Act.put, List.setIfInBounds_toArray, List.set_cons_zero, List.set_cons_succ, i64_w, i32_w]
        rfl
      refine pure_ (i := 12) (N := some 60) (v := ?_) (a' := ?_) #[true, true, true, true, true, false, true, true, true, false, true, true, true, false, false, false, false, false, false, false, false] rfl rfl (by kernel_rfl) (fun _ _ _ h => h) (Or.inl ⟨by rfl, ?_⟩) ?_ ?_
      rotate_left
      · intro w'
        go_simp
        with_reducible rfl
      rotate_left
      · simp only [Act.put, List.setIfInBounds_toArray, List.set_cons_zero, List.set_cons_succ, i64_w, i32_w]
        rfl
      refine pure_ (i := 14) (N := some 62) (v := ?_) (a' := ?_) #[true, true, true, true, true, false, true, true, true, false, true, true, true, false, true, false, false, false, false, false, false] rfl rfl (by kernel_rfl) (fun _ _ _ h => h) (Or.inl ⟨by rfl, ?_⟩) ?_ ?_
      rotate_left
      · intro w'
        go_simp
        with_reducible rfl
      rotate_left
      · simp only [Act.put, List.setIfInBounds_toArray, List.set_cons_zero, List.set_cons_succ, i64_w, i32_w]
        rfl
      refine pure_ (i := 15) (N := some 63) (v := ?_) (a' := ?_) #[true, true, true, true, true, false, true, true, true, false, true, true, true, false, true, true, false, false, false, false, false] rfl rfl (by kernel_rfl) (fun _ _ _ h => h) (Or.inl ⟨by rfl, ?_⟩) ?_ ?_
      rotate_left
      · intro w'
        go_simp
        with_reducible rfl
      rotate_left
      · simp only [Act.put, List.setIfInBounds_toArray, List.set_cons_zero, List.set_cons_succ, i64_w, i32_w]
        rfl
      refine pure_ (i := 16) (N := some 64) (v := ?_) (a' := ?_) #[true, true, true, true, true, false, true, true, true, false, true, true, true, false, true, true, true, false, false, false, false] rfl rfl (by kernel_rfl) (fun _ _ _ h => h) (Or.inl ⟨by rfl, ?_⟩) ?_ ?_
      rotate_left
      · intro w'
        go_simp
        with_reducible rfl
      rotate_left
      · simp only [Act.put, List.setIfInBounds_toArray, List.set_cons_zero, List.set_cons_succ, i64_w, i32_w]
        rfl
      refine take_ (i := 5) (N := some 53) (v := ?_) (a' := ?_) #[true, true, true, true, true, true, true, true, true, false, true, true, true, false, true, true, true, false, false, false, false] rfl rfl (by kernel_rfl) (fun _ _ _ h => h) (Or.inl ⟨by rfl, ?_⟩) hHeld ?_ ?_
      rotate_left
      · rintro w' ⟨s0, s1, s2, s3, s4⟩
        go_simp
        with_reducible rfl
      rotate_left
      · simp only [Act.put, List.setIfInBounds_toArray, List.set_cons_zero, List.set_cons_succ, i64_w, i32_w]
        rfl
      refine take_ (i := 9) (N := some 57) (v := ?_) (a' := ?_) #[true, true, true, true, true, true, true, true, true, true, true, true, true, false, true, true, true, false, false, false, false] rfl rfl (by kernel_rfl) (fun _ _ _ h => h) (Or.inl ⟨by rfl, ?_⟩) hHeld ?_ ?_
      rotate_left
      · rintro w' ⟨s0, s1, s2, s3, s4⟩
        go_simp
        with_reducible rfl
      rotate_left
      · simp only [Act.put, List.setIfInBounds_toArray, List.set_cons_zero, List.set_cons_succ, i64_w, i32_w]
        rfl
      refine take_ (i := 13) (N := some 61) (v := ?_) (a' := ?_) #[true, true, true, true, true, true, true, true, true, true, true, true, true, true, true, true, true, false, false, false, false] rfl rfl (by kernel_rfl) (fun _ _ _ h => h) (Or.inl ⟨by rfl, ?_⟩) hHeld ?_ ?_
      rotate_left
      · rintro w' ⟨s0, s1, s2, s3, s4⟩
        go_simp
        with_reducible rfl
      rotate_left
      · simp only [Act.put, List.setIfInBounds_toArray, List.set_cons_zero, List.set_cons_succ, i64_w, i32_w]
        rfl
      refine take_ (i := 17) (N := some 65) (v := ?_) (a' := ?_) #[true, true, true, true, true, true, true, true, true, true, true, true, true, true, true, true, true, true, false, false, false] rfl rfl (by kernel_rfl) (fun _ _ _ h => h) (Or.inl ⟨by rfl, ?_⟩) hHeld ?_ ?_
      rotate_left
      · rintro w' ⟨s0, s1, s2, s3, s4⟩
        go_simp
        with_reducible rfl
      rotate_left
      · simp only [Act.put, List.setIfInBounds_toArray, List.set_cons_zero, List.set_cons_succ, i64_w, i32_w]
        rfl
      refine last_ (i := 18) (N := some 66) #[true, true, true, true, true, true, true, true, true, true, true, true, true, true, true, true, true, true, true, false, false] rfl rfl (by kernel_rfl) (by decide) (fun K hK => ?_)
      refine goes_ Tryd.func15 (by kernel_rfl) rfl #[.int .i64 i0, .int .i64 i1, .int .i64 i2, .float .f64 u] (by rfl) rfl rfl (by simp only [List.map_toArray, List.map_cons, List.map_nil]; rfl) ?_
      with_reducible refine (x_calls i0 i1 i2 u _ HU.out).mono ?_
      rintro e w3 ⟨r, rfl, hr, hd⟩
      refine ⟨_, rfl, ?_⟩
      have hh := hHeld
      have HQ := Aside0.mk hr
      have HD3 := Aside0.mk hd
      have hf3 : w3.frozen? ⟨w.heap.size, k, none⟩ = false := by obtain ⟨⟨m, rfl⟩⟩ := hd; exact hh.2.2.2.2
      have hc3 := pw_cell_below hd.below hh.2.2.2.1
      have hc3a := pw_cell_below hd.below hh.1
      have hc3b := pw_cell_below hd.below hh.2.1
      have hc3c := pw_cell_below hd.below hh.2.2.1
      clear hr hd
      refine hK.out _ _ ?_
      clear hK K
      refine norm_ (a' := ?_) ?_ ?_
      rotate_left
      · show Act.put _ (some 66) _ = _
        simp only [Act.put, List.setIfInBounds_toArray, List.set_cons_zero, List.set_cons_succ, i64_w, i32_w]
        rfl
      refine pure_ (i := 19) (N := some 67) (v := ?_) (a' := ?_) #[true, true, true, true, true, true, true, true, true, true, true, true, true, true, true, true, true, true, true, true, false] rfl rfl (by kernel_rfl) (fun _ _ _ h => h) (Or.inl ⟨by rfl, ?_⟩) ?_ ?_
      rotate_left
      · intro w'
        go_simp
        with_reducible rfl
      rotate_left
      · simp only [Act.put, List.setIfInBounds_toArray, List.set_cons_zero, List.set_cons_succ, i64_w, i32_w]
        rfl
      refine last_ (i := 20) (N := none) #[true, true, true, true, true, true, true, true, true, true, true, true, true, true, true, true, true, true, true, true, true] rfl rfl (by kernel_rfl) (by decide) (fun K hK => ?_)
      refine skip_ (w1 := ?_) (by rfl) rfl ?_ ?_
      rotate_left
      · go_simp
        rfl
      refine hK.out _ _ ?_
      clear hK K
      refine done_ (by kernel_rfl) ?_
      have hg : w.heap.size < w3.heap.size := by have := blk_lt HC.out; have := HD3.out.below.size; have e : wc.drew.heap.size = wc.heap.size := rfl; omega
      have hblk := blk_set (blk_below (blk_drew HC.out) HD3.out.below) k (.float .f64 r)
      have HBn := Aside0.mk (below_set (j := k) (v := .float .f64 r) (below_step (below_step HBK.out (below_drew (Below.refl _ _))) HD3.out.below) (Nat.le_refl _))
      clear hcu hfr hc3 hf3 hc3a hc3b hc3c hHeld hh h0 h1 h2
      generalize w3.setCell ⟨w.heap.size, k, none⟩ (.float .f64 r) = W4 at *
      go_wp2
      go_roundw
      case rel =>
        rcases (by omega : k = 0 ∨ k = 1 ∨ k = 2) with rfl | rfl | rfl
        · exact ⟨1, r, y1, z1, by omega, rfl, HQ, HY1, HZ1, ⟨hblk⟩, HBn⟩
        · exact ⟨2, x1, r, z1, by omega, rfl, HX1, HQ, HZ1, ⟨hblk⟩, HBn⟩
        · exact ⟨3, x1, y1, r, by omega, rfl, HX1, HY1, HQ, ⟨hblk⟩, HBn⟩
      case measure => simp [intOf]; omega
    · rw [show (decide (k < 3) && decide (k < n0) && decide (k < n1) && decide (k < n2)) = false from by simp; omega]
      have d0 := blk_cell HC.out 0
      have d1 := blk_cell HC.out 1
      have d2 := blk_cell HC.out 2
      go_wp2
      refine start_ (n := 12) (S := fun w' => w'.cell? ⟨w.heap.size, 0, none⟩ = some (.float .f64 x1) ∧ w'.cell? ⟨w.heap.size, 1, none⟩ = some (.float .f64 y1) ∧ w'.cell? ⟨w.heap.size, 2, none⟩ = some (.float .f64 z1)) (ds := []) #[false, false, false, false, false, false, false, false, false, false, false, false] (by kernel_rfl) rfl rfl ⟨d0, d1, d2⟩ (fun hHeld => ?_)
      refine pure_ (i := 0) (N := some 68) (v := ?_) (a' := ?_) #[true, false, false, false, false, false, false, false, false, false, false, false] rfl rfl (by kernel_rfl) (fun _ _ _ h => h) (Or.inl ⟨by rfl, ?_⟩) ?_ ?_
      rotate_left
      · intro w'
        go_simp
        with_reducible rfl
      rotate_left
      · simp only [Act.put, List.setIfInBounds_toArray, List.set_cons_zero, List.set_cons_succ, i64_w, i32_w]
        rfl
      refine pure_ (i := 1) (N := some 69) (v := ?_) (a' := ?_) #[true, true, false, false, false, false, false, false, false, false, false, false] rfl rfl (by kernel_rfl) (fun _ _ _ h => h) (Or.inl ⟨by rfl, ?_⟩) ?_ ?_
      rotate_left
      · intro w'
        go_simp
        with_reducible rfl
      rotate_left
      · simp only [Act.put, List.setIfInBounds_toArray, List.set_cons_zero, List.set_cons_succ, i64_w, i32_w]
        rfl
      refine pure_ (i := 3) (N := some 71) (v := ?_) (a' := ?_) #[true, true, false, true, false, false, false, false, false, false, false, false] rfl rfl (by kernel_rfl) (fun _ _ _ h => h) (Or.inl ⟨by rfl, ?_⟩) ?_ ?_
      rotate_left
      · intro w'
        go_simp
        with_reducible rfl
      rotate_left
      · simp only [Act.put, List.setIfInBounds_toArray, List.set_cons_zero, List.set_cons_succ, i64_w, i32_w]
        rfl
      refine pure_ (i := 4) (N := some 72) (v := ?_) (a' := ?_) #[true, true, false, true, true, false, false, false, false, false, false, false] rfl rfl (by kernel_rfl) (fun _ _ _ h => h) (Or.inl ⟨by rfl, ?_⟩) ?_ ?_
      rotate_left
      · intro w'
        go_simp
        with_reducible rfl
      rotate_left
      · simp only [Act.put, List.setIfInBounds_toArray, List.set_cons_zero, List.set_cons_succ, i64_w, i32_w]
        rfl
      refine pure_ (i := 6) (N := some 74) (v := ?_) (a' := ?_) #[true, true, false, true, true, false, true, false, false, false, false, false] rfl rfl (by kernel_rfl) (fun _ _ _ h => h) (Or.inl ⟨by rfl, ?_⟩) ?_ ?_
      rotate_left
      · intro w'
        go_simp
        with_reducible rfl
      rotate_left
      · simp only [Act.put, List.setIfInBounds_toArray, List.set_cons_zero, List.set_cons_succ, i64_w, i32_w]
        rfl
      refine pure_ (i := 7) (N := some 75) (v := ?_) (a' := ?_) #[true, true, false, true, true, false, true, true, false, false, false, false] rfl rfl (by kernel_rfl) (fun _ _ _ h => h) (Or.inl ⟨by rfl, ?_⟩) ?_ ?_
      rotate_left
      · intro w'
        go_simp
        with_reducible rfl
      rotate_left
      · simp only [Act.put, List.setIfInBounds_toArray, List.set_cons_zero, List.set_cons_succ, i64_w, i32_w]
        rfl
      refine take_ (i := 2) (N := some 70) (v := ?_) (a' := ?_) #[true, true, true, true, true, false, true, true, false, false, false, false] rfl rfl (by kernel_rfl) (fun _ _ _ h => h) (Or.inl ⟨by rfl, ?_⟩) hHeld ?_ ?_
      rotate_left
      · rintro w' ⟨s0, s1, s2⟩
        go_simp
        with_reducible rfl
      rotate_left
      · simp only [Act.put, List.setIfInBounds_toArray, List.set_cons_zero, List.set_cons_succ, i64_w, i32_w]
        rfl
      refine pure_ (i := 9) (N := some 15) (v := ?_) (a' := ?_) #[true, true, true, true, true, false, true, true, false, true, false, false] rfl rfl (by kernel_rfl) (fun _ _ _ h => h) (Or.inl ⟨by rfl, ?_⟩) ?_ ?_
      rotate_left
      · intro w'
        go_simp
        with_reducible rfl
      rotate_left
      · simp only [Act.put, List.setIfInBounds_toArray, List.set_cons_zero, List.set_cons_succ, i64_w, i32_w]
        rfl
      refine take_ (i := 5) (N := some 73) (v := ?_) (a' := ?_) #[true, true, true, true, true, true, true, true, false, true, false, false] rfl rfl (by kernel_rfl) (fun _ _ _ h => h) (Or.inl ⟨by rfl, ?_⟩) hHeld ?_ ?_
      rotate_left
      · rintro w' ⟨s0, s1, s2⟩
        go_simp
        with_reducible rfl
      rotate_left
      · simp only [Act.put, List.setIfInBounds_toArray, List.set_cons_zero, List.set_cons_succ, i64_w, i32_w]
        rfl
      refine pure_ (i := 10) (N := some 16) (v := ?_) (a' := ?_) #[true, true, true, true, true, true, true, true, false, true, true, false] rfl rfl (by kernel_rfl) (fun _ _ _ h => h) (Or.inl ⟨by rfl, ?_⟩) ?_ ?_
      rotate_left
      · intro w'
        go_simp
        with_reducible rfl
      rotate_left
      · simp only [Act.put, List.setIfInBounds_toArray, List.set_cons_zero, List.set_cons_succ, i64_w, i32_w]
        rfl
      refine take_ (i := 8) (N := some 76) (v := ?_) (a' := ?_) #[true, true, true, true, true, true, true, true, true, true, true, false] rfl rfl (by kernel_rfl) (fun _ _ _ h => h) (Or.inl ⟨by rfl, ?_⟩) hHeld ?_ ?_
      rotate_left
      · rintro w' ⟨s0, s1, s2⟩
        go_simp
        with_reducible rfl
      rotate_left
      · simp only [Act.put, List.setIfInBounds_toArray, List.set_cons_zero, List.set_cons_succ, i64_w, i32_w]
        rfl
      refine pure_ (i := 11) (N := some 17) (v := ?_) (a' := ?_) #[true, true, true, true, true, true, true, true, true, true, true, true] rfl rfl (by kernel_rfl) (fun _ _ _ h => h) (Or.inl ⟨by rfl, ?_⟩) ?_ ?_
      rotate_left
      · intro w'
        go_simp
        with_reducible rfl
      rotate_left
      · simp only [Act.put, List.setIfInBounds_toArray, List.set_cons_zero, List.set_cons_succ, i64_w, i32_w]
        rfl
      refine done_ (by kernel_rfl) ?_
      have HB1 := Aside0.mk (below_step HBK.out (below_drew (Below.refl _ wc)))
      clear d0 d1 d2 hHeld HC HBK hlt HM0 HM1 HM2 hm0 hm1 hm2 HR0 HR1 HR2 hk
      generalize wc.drew = W1 at *
      have HQ := Aside0.mk (cnt_keys (key x1) (key y1))
      have HSelf := Aside0.mk (show decide (key x1 < key x1) = false from decide_eq_false (by omega))
      have HSame := Aside0.mk (show decide (key x1 = key x1) = true from decide_eq_true rfl)
      have HP1 := Aside0.mk (show decide (key x1 < key y1) = true → decide (key y1 < key z1) = true → decide (key x1 < key z1) = true from fun h1 h2 => decide_eq_true (by have := of_decide_eq_true h1; have := of_decide_eq_true h2; omega))
      have HP2 := Aside0.mk (show decide (key x1 = key y1) = true → decide (key x1 < key y1) = false ∧ decide (key y1 < key z1) = decide (key x1 < key z1) from fun h1 => by have := of_decide_eq_true h1; rw [this]; exact ⟨decide_eq_false (by omega), rfl⟩)
      have C1 := Aside0.mk (fun W => less_calls x1 y1 W HX1.out HY1.out)
      have C2 := Aside0.mk (fun W => less_calls y1 x1 W HY1.out HX1.out)
      have C3 := Aside0.mk (fun W => same_calls x1 y1 W HX1.out HY1.out)
      have C4 := Aside0.mk (fun W => less_calls y1 z1 W HY1.out HZ1.out)
      have C5 := Aside0.mk (fun W => less_calls x1 z1 W HX1.out HZ1.out)
      have C6 := Aside0.mk (fun W => less_calls x1 x1 W HX1.out HX1.out)
      have C7 := Aside0.mk (fun W => same_calls x1 x1 W HX1.out HX1.out)
      rw [HSelf.out] at C6
      rw [HSame.out] at C7
      generalize decide (key x1 < key y1) = t1 at *
      generalize decide (key y1 < key x1) = t2 at *
      generalize decide (key x1 = key y1) = t3 at *
      generalize decide (key y1 < key z1) = t4 at *
      generalize decide (key x1 < key z1) = t5 at *
      go_wp2_with fail
      ((with_reducible refine (C1.out _).mono ?_); rintro e w2 ⟨rfl, rfl⟩)
      go_wp2_with fail
      ((with_reducible refine (C2.out _).mono ?_); rintro e w2 ⟨rfl, rfl⟩)
      go_wp2_with fail
      ((with_reducible refine (C3.out _).mono ?_); rintro e w2 ⟨rfl, rfl⟩)
      have HZ := Aside0.mk (heap_alloc_new W1 (.cells #[.bool t1, .bool t2, .bool t3] 4))
      have HB2 := Aside0.mk (below_alloc HB1.out (.cells #[.bool t1, .bool t2, .bool t3] 4))
      go_wp2
      go_loopw [18, 88] (fun n i wr => ∃ j : Nat, j ≤ 3 ∧ i = .int .i64 j ∧ n = .int .i64 (cnt (tri t1 t2 t3) j) ∧ Aside0 (wr.heap[W1.heap.size]? = some (.cells #[.bool t1, .bool t2, .bool t3] 4 (0, 0))) ∧ Aside0 (Below w.heap.size w wr)) (fun _ i _ => 3 - (intOf i).toNat)
      case atStart => exact ⟨0, by omega, rfl, rfl, HZ, HB2⟩
      case round =>
        obtain ⟨j, hj, rfl, rfl, HC, HB3⟩ := hrel
        clear HZ HB2 HB1
        have hcn := cnt_in (tri t1 t2 t3) j
        have HST := Aside0.mk (show cnt (tri t1 t2 t3) (j + 1) = if tri t1 t2 t3 j = true then cnt (tri t1 t2 t3) j + 1 else cnt (tri t1 t2 t3) j from rfl)
        generalize hcm : cnt (tri t1 t2 t3) j = m at *
        have HCM := Aside0.mk hcm
        clear hcm
        by_cases hlt : j < 3
        · have hcell : wr.cell? ⟨W1.heap.size, j, none⟩ = some (.bool (tri t1 t2 t3 j)) := by
            have hb := blk_cell HC.out j
            rcases (by omega : j = 0 ∨ j = 1 ∨ j = 2) with rfl | rfl | rfl <;> exact hb
          have j0 : (0 : Int) ≤ (j : Int) := by omega
          have j1 : (j : Int) < 3 := by omega
          generalize tri t1 t2 t3 j = tj at *
          cases tj
          · go_wp2
            go_roundw
            case rel => exact ⟨j + 1, by omega, by go_num, by rw [HST.out]; rfl, HC, HB3⟩
            case measure => simp [intOf]; omega
          · go_wp2
            go_roundw
            case rel => exact ⟨j + 1, by omega, by go_num, by rw [HST.out]; go_num, HC, HB3⟩
            case measure => simp [intOf]; omega
        · obtain rfl : j = 3 := by omega
          obtain rfl : m = 1 := HCM.out.symm.trans HQ.out
          clear HC HST HCM HQ hcn hlt
          go_upto_region 14 with (fail)
          go_cut [138] (fun s wx => s = .bool false ∧ Aside0 (wx = wr))
          case first =>
            cases t1
            · cases t3
              · go_wp2_with fail
                ((with_reducible refine (C6.out _).mono ?_); rintro e w2 ⟨rfl, rfl⟩)
                go_wp2_with fail
                ((with_reducible refine (C7.out _).mono ?_); rintro e w2 ⟨rfl, rfl⟩)
                go_wp2_with fail
                ((with_reducible refine (C1.out _).mono ?_); rintro e w2 ⟨rfl, rfl⟩)
                go_wp2_with fail
                ((with_reducible refine (C3.out _).mono ?_); rintro e w2 ⟨rfl, rfl⟩)
                go_wp2
                go_meet
                exact ⟨rfl, ⟨rfl⟩⟩
              · obtain rfl : t4 = t5 := (HP2.out rfl).2
                go_wp2_with fail
                ((with_reducible refine (C6.out _).mono ?_); rintro e w2 ⟨rfl, rfl⟩)
                go_wp2_with fail
                ((with_reducible refine (C7.out _).mono ?_); rintro e w2 ⟨rfl, rfl⟩)
                go_wp2_with fail
                ((with_reducible refine (C1.out _).mono ?_); rintro e w2 ⟨rfl, rfl⟩)
                go_wp2_with fail
                ((with_reducible refine (C3.out _).mono ?_); rintro e w2 ⟨rfl, rfl⟩)
                go_wp2_with fail
                ((with_reducible refine (C4.out _).mono ?_); rintro e w2 ⟨rfl, rfl⟩)
                go_wp2_with fail
                ((with_reducible refine (C5.out _).mono ?_); rintro e w2 ⟨rfl, rfl⟩)
                have hbn : (t4 != t4) = false := by cases t4 <;> rfl
                go_wp2
                go_meet
                exact ⟨by rfl, ⟨rfl⟩⟩
            · obtain rfl : t3 = false := by
                cases t3
                · rfl
                · have := (HP2.out rfl).1
                  cases this
              cases t4
              · go_wp2_with fail
                ((with_reducible refine (C6.out _).mono ?_); rintro e w2 ⟨rfl, rfl⟩)
                go_wp2_with fail
                ((with_reducible refine (C7.out _).mono ?_); rintro e w2 ⟨rfl, rfl⟩)
                go_wp2_with fail
                ((with_reducible refine (C1.out _).mono ?_); rintro e w2 ⟨rfl, rfl⟩)
                go_wp2_with fail
                ((with_reducible refine (C4.out _).mono ?_); rintro e w2 ⟨rfl, rfl⟩)
                go_wp2_with fail
                ((with_reducible refine (C3.out _).mono ?_); rintro e w2 ⟨rfl, rfl⟩)
                go_wp2
                go_meet
                exact ⟨rfl, ⟨rfl⟩⟩
              · obtain rfl : t5 = true := HP1.out rfl rfl
                go_wp2_with fail
                ((with_reducible refine (C6.out _).mono ?_); rintro e w2 ⟨rfl, rfl⟩)
                go_wp2_with fail
                ((with_reducible refine (C7.out _).mono ?_); rintro e w2 ⟨rfl, rfl⟩)
                go_wp2_with fail
                ((with_reducible refine (C1.out _).mono ?_); rintro e w2 ⟨rfl, rfl⟩)
                go_wp2_with fail
                ((with_reducible refine (C4.out _).mono ?_); rintro e w2 ⟨rfl, rfl⟩)
                go_wp2_with fail
                ((with_reducible refine (C5.out _).mono ?_); rintro e w2 ⟨rfl, rfl⟩)
                go_wp2_with fail
                ((with_reducible refine (C3.out _).mono ?_); rintro e w2 ⟨rfl, rfl⟩)
                go_wp2
                go_meet
                exact ⟨rfl, ⟨rfl⟩⟩
          rotate_left
          obtain ⟨rfl, hwx⟩ := hcut
          obtain ⟨rfl⟩ := hwx
          clear C1 C2 C3 C4 C5 C6 C7 HP1 HP2 HSelf HSame HY1 HZ1
          go_wp2_with fail
          ((with_reducible refine (share_calls 0 0 _).mono ?_); rintro e w3 ⟨r, rfl, hr, hc, hd⟩)
          rw [share00] at hc
          have hn : nanB r = true := hc
          have HRN := Aside0.mk hn
          have HRB := Aside0.mk hr
          have HB4 := Aside0.mk (below_step HB3.out hd.below)
          have hne := t_ne x1
          have hlt : decide (key x1 < key r) = !nanB x1 := by
            rw [key_nan hn]
            cases hq : nanB x1
            · exact decide_eq_true (key_lt_nan hq)
            · rw [key_nan hq]; rfl
          have hgt : decide (key r < key x1) = false := by
            rw [key_nan hn]
            exact decide_eq_false (by have := key_le x1; omega)
          have D1 := Aside0.mk (fun W => less_calls x1 r W HX1.out hr)
          have D2 := Aside0.mk (fun W => less_calls r x1 W hr HX1.out)
          rw [hlt] at D1
          rw [hgt] at D2
          clear hn hr hc hd hlt hgt HB3 HX1
          generalize nanB x1 = nx at *
          have HZ := Aside0.mk (heap_alloc_new w3 (.cells #[.float .f64 r, .float .f64 r] 24))
          have HB5 := Aside0.mk (below_alloc HB4.out (.cells #[.float .f64 r, .float .f64 r] 24))
          clear HB4
          cases nx
          all_goals
            go_wp2_with fail
            ((with_reducible refine (D1.out _).mono ?_); rintro e w4 ⟨rfl, rfl⟩)
            go_wp2_with fail
            ((with_reducible refine (D2.out _).mono ?_); rintro e w4 ⟨rfl, rfl⟩)
            go_wp2_with fail
            ((with_reducible refine (best_calls (some ⟨w3.heap.size, 0, none⟩) 2 2 [r, r] _ (kf_new [r, r] 2 rfl (by omega) HZ.out) (by intro q hq; simp at hq; rw [hq]; exact HRB.out)).mono ?_); rw [best_nan2 HRN.out]; rintro e w5 ⟨rfl, hd5⟩)
            have HB6 := Aside0.mk (below_step HB5.out hd5.below)
            clear hd5
            go_wp2_with fail
            ((with_reducible refine (best_calls none 0 0 [] _ (Kd.C_nil _ _) (by intro q hq; simp at hq)).mono ?_); rw [show bestAt [] 0 = -1 from rfl]; rintro e w6 ⟨rfl, hd6⟩)
            have HB7 := Aside0.mk (below_step HB6.out hd6.below)
            clear hd6
            go_wp2_with fail
            ((with_reducible refine (wakes01_calls _ (HT.out.below HB7.out)).mono ?_); rintro e w7 ⟨rfl, hb7⟩)
            go_wp2
            go_ret
            exact ⟨rfl, below_step HB7.out hb7⟩
theorem gaugeOrder_law (A0 : Option Addr) (c0 : Nat) (l0 : List Int) (A1 : Option Addr) (c1 : Nat) (l1 : List Int) (A2 : Option Addr) (c2 : Nat) (l2 : List Int) (x y z : Nat) (w : World) (hL : laidMetH Tryd.prog Rows.gaugeOrderRow.laid w)
    (hr0 : Kd.C (Kd.int .i64) w A0 l0.length l0) (hc0 : l0.length ≤ c0) (hy0 : l0.length * 8 ≤ 140737488351232) (hw0 : ∀ x ∈ l0, (Lit.int .i64 x).wf = true)
    (hr1 : Kd.C (Kd.int .i64) w A1 l1.length l1) (hc1 : l1.length ≤ c1) (hy1 : l1.length * 8 ≤ 140737488351232) (hw1 : ∀ x ∈ l1, (Lit.int .i64 x).wf = true)
    (hr2 : Kd.C (Kd.int .i64) w A2 l2.length l2) (hc2 : l2.length ≤ c2) (hy2 : l2.length * 8 ≤ 140737488351232) (hw2 : ∀ x ∈ l2, (Lit.int .i64 x).wf = true)
    (hx : (Lit.float .f64 x).wf = true) (hy : (Lit.float .f64 y).wf = true) (hz : (Lit.float .f64 z).wf = true) :
    Calls Tryd.prog 7 #[.slice A0 l0.length c0, .slice A1 l1.length c1, .slice A2 l2.length c2, .float .f64 x, .float .f64 y, .float .f64 z] w fun e w' => e = .returned (.bool true) ∧ Below w.heap.size w w' :=
  gaugeOrder_calls A0 _ c0 l0 A1 _ c1 l1 A2 _ c2 l2 x y z w hr0 hr1 hr2 (of_decide_eq_true hx) (of_decide_eq_true hy) (of_decide_eq_true hz) (tens_of_laid hL)
end Go.Proofs.YtolecdgpfflijaaDoor
