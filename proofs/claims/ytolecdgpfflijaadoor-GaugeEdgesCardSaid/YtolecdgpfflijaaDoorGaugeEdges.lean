/- law01's GaugeEdges. -/
import Derived.Test.YtolecdgpfflijaaDoorGaugeEdgesPure
import Derived.Test.YtolecdgpfflijaaDoorGaugeOrder
namespace Go.Proofs.YtolecdgpfflijaaDoor
open Go.RowKit Go.Proofs.YtolecdgpfflijaaDoorW.PrintWords Go.Proofs.YtolecdgpfflijaaDoorW.PrintLast Go.Proofs.YtolecdgpfflijaaDoorW.PrintMore
set_option linter.unusedVariables false
set_option linter.unusedSimpArgs false
set_option maxRecDepth 1000000
/-- The texts of the edges. -/
def edgeText (j : Nat) : ByteArray := match j with
  | 0 => ⟨#[45, 101, 110, 100, 108, 101, 115, 115]⟩
  | 2 => ⟨#[45, 48, 46, 48, 48]⟩
  | 3 => ⟨#[48, 46, 48, 48]⟩
  | 5 => ⟨#[101, 110, 100, 108, 101, 115, 115]⟩
  | 6 => ⟨#[110, 111, 110, 101]⟩
  | _ => ⟨#[]⟩
theorem says0 : Says 0 ⟨#[48, 46, 48, 48]⟩ := fun w ht => by
  have h := digits_num 0 0 0 0 w (by decide +kernel) (by decide +kernel) (by decide +kernel) (by decide +kernel) (by decide +kernel) (by omega) (by omega) ht
  have e : cents 0 = ⟨#[48, 46, 48, 48]⟩ := by decide +kernel
  rw [e] at h
  exact h
theorem saysFar : Says 4787326403894837248 ⟨#[49, 48, 57, 57, 53, 49, 49, 54, 50, 55, 55, 55, 54, 46, 48, 48]⟩ := fun w ht => by
  have h := digits_num 4787326403894837248 4816881276449456128 4816881276449456128 109951162777600 w (by decide +kernel) (by decide +kernel) (by decide +kernel) (by decide +kernel) (by decide +kernel) (by omega) (by omega) ht
  have e : cents 109951162777600 = ⟨#[49, 48, 57, 57, 53, 49, 49, 54, 50, 55, 55, 55, 54, 46, 48, 48]⟩ := by decide +kernel
  rw [e] at h
  exact h
theorem shareFar : shareO 1099511627776 1 = some 4787326403894837248 := by decide +kernel
theorem saysBig : Says 4831355200913801216 ⟨#[98, 105, 103]⟩ := fun w ht => (digits_big 4831355200913801216 w (by decide +kernel)).mono fun e w' ⟨h, hw⟩ => ⟨h, by subst hw; exact Below.refl _ _⟩
/-- The texts of the row's floats. -/
theorem edge_text {n : Int} {a b r : Nat} (h : Edge n a b) (hr : nanB r = true) (hrb : r < 18446744073709551616) (j : Nat) (hj : j = 0 ∨ j = 2 ∨ j = 3 ∨ j = 5 ∨ j = 6) (w : World) (ht : Tens w) :
    Calls Tryd.prog 13 #[.float .f64 (rdOf 0 (edges a b r) j)] w fun e w' => e = .returned (.string (edgeText j)) ∧ Below w.heap.size w w' := by
  rcases hj with rfl | rfl | rfl | rfl | rfl
  · exact (text_inf 18442240474082181120 w (by decide) (by decide)).mono fun e w' ⟨h, hw⟩ => ⟨h, by subst hw; exact Below.refl _ _⟩
  · exact text_neg 9223372036854775808 ⟨#[48, 46, 48, 48]⟩ w (by decide) (by decide) (by decide) (by decide) says0 (by decide) ht
  · exact text_pos 0 _ w (by decide) (by decide) (by decide) (by decide) says0 ht
  · exact (text_inf 9218868437227405312 w (by decide) (by decide)).mono fun e w' ⟨h, hw⟩ => ⟨h, by subst hw; exact Below.refl _ _⟩
  · exact (text_nan r w hr).mono fun e w' ⟨h, hw⟩ => ⟨h, by subst hw; exact Below.refl _ _⟩
set_option maxHeartbeats 16000000 in
theorem gaugeEdges_calls (n : Int) (w : World) (ht : Tens w) :
    Calls Tryd.prog 6 #[.int .i64 n] w fun e w' => e = .returned (.bool true) ∧ Below w.heap.size w w' := by
  have HT := Aside0.mk ht
  obtain ⟨u0, u1⟩ := wi_bd n 1000 (by omega)
  obtain ⟨v1, v4, hE⟩ := edge_of (1 + wi n 1000) (by omega) (by omega)
  have HE := Aside0.mk hE
  clear ht hE
  generalize hu : wi n 1000 = u at *
  have HU := Aside0.mk hu
  clear hu
  go_enter Tryd.func6, Tryd.ntmps6
  go_wp2_with fail
  ((with_reducible refine (within_calls n 1000 _ (by omega)).mono ?_); rw [HU.out]; rintro e w1 ⟨rfl, rfl⟩)
  go_wp2_with fail
  ((with_reducible refine (share_calls 0 0 _).mono ?_); rintro e w1 ⟨r, rfl, hr, hc, hd⟩)
  rw [share00] at hc
  have HRN := Aside0.mk (show nanB r = true from hc)
  have HRB := Aside0.mk hr
  have HB1 := Aside0.mk hd.below
  clear hr hc hd
  go_wp2_with fail
  ((with_reducible refine (share_calls (1 + u) 0 _).mono ?_); rintro e w2 ⟨q, rfl, hr, hc, hd⟩)
  rw [HE.out.up] at hc
  obtain rfl : q = 9218868437227405312 := hc
  have HB2 := Aside0.mk (below_step HB1.out hd.below)
  clear hr hd HB1
  go_wp2_with fail
  ((with_reducible refine (share_calls (-(1 + u)) 0 _).mono ?_); rintro e w3 ⟨q, rfl, hr, hc, hd⟩)
  rw [HE.out.down] at hc
  obtain rfl : q = 18442240474082181120 := hc
  have HB3 := Aside0.mk (below_step HB2.out hd.below)
  clear hr hd HB2
  go_wp2_with fail
  ((with_reducible refine (share_calls 0 (1 + u) _).mono ?_); rintro e w4 ⟨q, rfl, hr, hc, hd⟩)
  rw [HE.out.zero] at hc
  obtain rfl : q = 0 := hc
  have HB4 := Aside0.mk (below_step HB3.out hd.below)
  clear hr hd HB3
  go_wp2_with fail
  ((with_reducible refine (share_calls 0 (-(1 + u)) _).mono ?_); rintro e w5 ⟨q, rfl, hr, hc, hd⟩)
  rw [HE.out.minus] at hc
  obtain rfl : q = 9223372036854775808 := hc
  have HB5 := Aside0.mk (below_step HB4.out hd.below)
  clear hr hd HB4
  go_wp2_with fail
  ((with_reducible refine (share_calls (-(1 + u)) 1 _).mono ?_); rintro e w6 ⟨q, rfl, hr, hc, hd⟩)
  rw [HE.out.lo] at hc
  have hq : v1 = q := hc.symm
  subst hq
  have HB6 := Aside0.mk (below_step HB5.out hd.below)
  clear hr hd HB5
  go_wp2_with fail
  ((with_reducible refine (share_calls (1 + u) 1 _).mono ?_); rintro e w7 ⟨q, rfl, hr, hc, hd⟩)
  rw [HE.out.hi] at hc
  have hq : v4 = q := hc.symm
  subst hq
  have HB7 := Aside0.mk (below_step HB6.out hd.below)
  clear hr hd HB6
  have HC := Aside0.mk (heap_alloc_new w7 (.cells #[.float .f64 18442240474082181120, .float .f64 v1, .float .f64 9223372036854775808, .float .f64 0, .float .f64 v4, .float .f64 9218868437227405312, .float .f64 r] 24))
  have HB8 := Aside0.mk (below_alloc HB7.out (.cells #[.float .f64 18442240474082181120, .float .f64 v1, .float .f64 9223372036854775808, .float .f64 0, .float .f64 v4, .float .f64 9218868437227405312, .float .f64 r] 24))
  clear HB7
  go_wp2
  have HK := Aside0.mk (fun i j hi hj => edges_key (r := r) HE.out HRN.out i j hi hj)
  have HW := Aside0.mk (show ∀ y ∈ edges v1 v4 r, y < 18446744073709551616 from by
    intro y hy
    unfold edges at hy
    simp only [List.mem_cons, List.mem_nil_iff, or_false] at hy
    rcases hy with rfl | rfl | rfl | rfl | rfl | rfl | rfl
    · decide
    · exact HE.out.la
    · decide
    · decide
    · exact HE.out.lb
    · decide
    · exact HRB.out)
  have HKF := Aside0.mk (show KF.C (w7.alloc (.cells #[.float .f64 18442240474082181120, .float .f64 v1, .float .f64 9223372036854775808, .float .f64 0, .float .f64 v4, .float .f64 9218868437227405312, .float .f64 r] 24)) (some ⟨w7.heap.size, 0, none⟩) 7 (edges v1 v4 r) from kf_new (edges v1 v4 r) 7 rfl (by omega) HC.out)
  generalize w7.alloc (.cells #[.float .f64 18442240474082181120, .float .f64 v1, .float .f64 9223372036854775808, .float .f64 0, .float .f64 v4, .float .f64 9218868437227405312, .float .f64 r] 24) = W8 at *
  generalize w7.heap.size = g at *
  clear HC
  go_loopw [43] (fun i wr => ∃ k : Nat, k ≤ 7 ∧ i = .int .i64 k ∧ Drawn0 W8 wr) (fun i _ => 7 - (intOf i).toNat)
  case atStart => exact ⟨0, by omega, rfl, by repeat (first | exact Drawn0.refl _ | apply Drawn0.step)⟩
  case round =>
    obtain ⟨k, hk, rfl, ⟨mk, rfl⟩⟩ := hrel
    by_cases hlt : k < 7
    · have k0 : (0 : Int) ≤ (k : Int) := by omega
      have k1 : (k : Int) < 7 := by omega
      obtain ⟨ad, e, hc⟩ := at_fl HKF.out k k0 k1
      cases e
      simp only [Int.toNat_natCast, add_plain] at hc
      have HXK := Aside0.mk (rdOf_lt HW.out k)
      have HKK := Aside0.mk (fun j hj => HK.out k j hlt hj)
      generalize rdOf 0 (edges v1 v4 r) k = xk at *
      go_wp2
      go_loopw [50] (fun i wr => ∃ j : Nat, j ≤ 7 ∧ i = .int .i64 j ∧ Drawn0 W8 wr) (fun i _ => 7 - (intOf i).toNat)
      case atStart => exact ⟨0, by omega, rfl, by repeat (first | exact Drawn0.refl _ | apply Drawn0.step)⟩
      case round =>
        obtain ⟨j, hj, rfl, ⟨mj, rfl⟩⟩ := hrel
        by_cases hlj : j < 7
        · have j0 : (0 : Int) ≤ (j : Int) := by omega
          have j1 : (j : Int) < 7 := by omega
          obtain ⟨ad, e, hd⟩ := at_fl HKF.out j j0 j1
          cases e
          simp only [Int.toNat_natCast, add_plain] at hd
          have HXJ := Aside0.mk (rdOf_lt HW.out j)
          have HKJ := Aside0.mk (HKK.out j hlj)
          generalize rdOf 0 (edges v1 v4 r) j = xj at *
          have e1 : ∀ b : Bool, (b != b) = false := fun b => by cases b <;> rfl
          have L1 := Aside0.mk (fun W => less_calls xk xj W HXK.out HXJ.out)
          have L2 := Aside0.mk (fun W => same_calls xk xj W HXK.out HXJ.out)
          rw [HKJ.out.1] at L1
          rw [HKJ.out.2] at L2
          clear e1 HKJ
          rcases Int.lt_trichotomy (k : Int) j with hq | hq | hq
          · rw [decide_eq_true hq] at L1
            have hne : ¬ (k : Int) = j := by omega
            have hnb : ((k : Int) == j) = false := by simp; omega
            rw [decide_eq_false hne] at L2
            go_wp2_with fail
            ((with_reducible refine (L1.out _).mono ?_); rintro e w9 ⟨rfl, rfl⟩)
            go_wp2_with fail
            ((with_reducible refine (L2.out _).mono ?_); rintro e w9 ⟨rfl, rfl⟩)
            go_wp2
            go_roundw
            case rel => exact ⟨j + 1, by omega, by go_num, by repeat (first | exact Drawn0.refl _ | apply Drawn0.step)⟩
            case measure => simp [intOf]; omega
          · have hnl : ¬ (k : Int) < j := by omega
            have hnb : ((k : Int) == j) = true := by simp; omega
            rw [decide_eq_false hnl] at L1
            rw [decide_eq_true hq] at L2
            clear hq
            go_wp2_with fail
            ((with_reducible refine (L1.out _).mono ?_); rintro e w9 ⟨rfl, rfl⟩)
            go_wp2_with fail
            ((with_reducible refine (L2.out _).mono ?_); rintro e w9 ⟨rfl, rfl⟩)
            go_wp2
            go_roundw
            case rel => exact ⟨j + 1, by omega, by go_num, by repeat (first | exact Drawn0.refl _ | apply Drawn0.step)⟩
            case measure => simp [intOf]; omega
          · have hnl : ¬ (k : Int) < j := by omega
            have hne : ¬ (k : Int) = j := by omega
            have hnb : ((k : Int) == j) = false := by simp; omega
            rw [decide_eq_false hnl] at L1
            rw [decide_eq_false hne] at L2
            go_wp2_with fail
            ((with_reducible refine (L1.out _).mono ?_); rintro e w9 ⟨rfl, rfl⟩)
            go_wp2_with fail
            ((with_reducible refine (L2.out _).mono ?_); rintro e w9 ⟨rfl, rfl⟩)
            go_wp2
            go_roundw
            case rel => exact ⟨j + 1, by omega, by go_num, by repeat (first | exact Drawn0.refl _ | apply Drawn0.step)⟩
            case measure => simp [intOf]; omega
        · obtain rfl : j = 7 := by omega
          go_wp2
          go_roundw
          case rel => exact ⟨k + 1, by omega, by go_num, by repeat (first | exact Drawn0.refl _ | apply Drawn0.step)⟩
          case measure => simp [intOf]; omega
    · have hlt' : ¬ (k : Int) < 7 := by omega
      clear HK
      have hsz : (W8.drewN mk).heap.size = W8.heap.size := rfl
      have HS := Aside0.mk (heap_alloc_new (W8.drewN mk) (.cells #[.string ⟨#[45, 101, 110, 100, 108, 101, 115, 115]⟩, .string ⟨#[]⟩, .string ⟨#[45, 48, 46, 48, 48]⟩, .string ⟨#[48, 46, 48, 48]⟩, .string ⟨#[]⟩, .string ⟨#[101, 110, 100, 108, 101, 115, 115]⟩, .string ⟨#[110, 111, 110, 101]⟩] 9))
      have HB9 := Aside0.mk (below_alloc (pw_below_drewN HB8.out mk) (.cells #[.string ⟨#[45, 101, 110, 100, 108, 101, 115, 115]⟩, .string ⟨#[]⟩, .string ⟨#[45, 48, 46, 48, 48]⟩, .string ⟨#[48, 46, 48, 48]⟩, .string ⟨#[]⟩, .string ⟨#[101, 110, 100, 108, 101, 115, 115]⟩, .string ⟨#[110, 111, 110, 101]⟩] 9))
      have HKF9 := Aside0.mk (Kd.C_below HKF.out (below_alloc (pw_below_drewN (Below.refl _ W8) mk) (.cells #[.string ⟨#[45, 101, 110, 100, 108, 101, 115, 115]⟩, .string ⟨#[]⟩, .string ⟨#[45, 48, 46, 48, 48]⟩, .string ⟨#[48, 46, 48, 48]⟩, .string ⟨#[]⟩, .string ⟨#[101, 110, 100, 108, 101, 115, 115]⟩, .string ⟨#[110, 111, 110, 101]⟩] 9)))
      go_wp2
      generalize (W8.drewN mk).alloc (.cells #[.string ⟨#[45, 101, 110, 100, 108, 101, 115, 115]⟩, .string ⟨#[]⟩, .string ⟨#[45, 48, 46, 48, 48]⟩, .string ⟨#[48, 46, 48, 48]⟩, .string ⟨#[]⟩, .string ⟨#[101, 110, 100, 108, 101, 115, 115]⟩, .string ⟨#[110, 111, 110, 101]⟩] 9) = W9 at *
      rw [hsz] at HS
      generalize W8.heap.size = G at *
      clear hsz HB8 HKF
      go_loopw [75] (fun i wr => ∃ j : Nat, j ≤ 7 ∧ i = .int .i64 j ∧ Aside0 (Below W9.heap.size W9 wr)) (fun i _ => 7 - (intOf i).toNat)
      case atStart => exact ⟨0, by omega, rfl, ⟨Below.refl _ _⟩⟩
      case round =>
        obtain ⟨j, hj, rfl, HBJ⟩ := hrel
        by_cases hlj : j < 7
        · have j0 : (0 : Int) ≤ (j : Int) := by omega
          have j1 : (j : Int) < 7 := by omega
          have hs : wr.cell? ⟨G, j, none⟩ = some (.string (edgeText j)) := by
            have hb := blk_cell (blk_below HS.out HBJ.out) j
            rcases (by omega : j = 0 ∨ j = 1 ∨ j = 2 ∨ j = 3 ∨ j = 4 ∨ j = 5 ∨ j = 6) with rfl | rfl | rfl | rfl | rfl | rfl | rfl <;> exact hb
          by_cases he : j = 1 ∨ j = 4
          · have ht : edgeText j = ⟨#[]⟩ := by rcases he with rfl | rfl <;> rfl
            rw [ht] at hs
            clear he ht
            go_wp2
            go_roundw
            case rel => exact ⟨j + 1, by omega, by go_num, HBJ⟩
            case measure => simp [intOf]; omega
          · have ht : ¬ (edgeText j).toList = [] := by
              rcases (by omega : j = 0 ∨ j = 2 ∨ j = 3 ∨ j = 5 ∨ j = 6) with rfl | rfl | rfl | rfl | rfl <;> decide +kernel
            obtain ⟨ad, e, hd⟩ := at_fl (Kd.C_below HKF9.out HBJ.out) j j0 j1
            cases e
            simp only [Int.toNat_natCast, add_plain] at hd
            have HTX := Aside0.mk (edge_text (r := r) HE.out HRN.out HRB.out j (by omega) wr (HT.out.below (below_step HB9.out HBJ.out)))
            generalize edgeText j = t at *
            generalize rdOf 0 (edges v1 v4 r) j = xj at *
            clear he
            go_wp2_with fail
            ((with_reducible refine HTX.out.mono ?_); rintro e w11 ⟨rfl, hb11⟩)
            have HB11 := Aside0.mk (below_step HBJ.out hb11)
            clear hb11
            go_wp2
            go_roundw
            case rel => exact ⟨j + 1, by omega, by go_num, HB11⟩
            case measure => simp [intOf]; omega
        · have hlj' : ¬ (j : Int) < 7 := by omega
          have HKG := Aside0.mk (Kd.C_below HKF9.out HBJ.out)
          have HBG := Aside0.mk (below_step HB9.out HBJ.out)
          have hfar : shareO (1099511627776 + (1 + u)) 1 = none := by
            unfold shareO near40
            rw [show decide (-1099511627776 ≤ 1099511627776 + (1 + u) ∧ 1099511627776 + (1 + u) ≤ 1099511627776) = false from decide_eq_false (by omega)]
            rfl
          have HFAR := Aside0.mk hfar
          clear hj HS hfar HBJ
          go_wp2_with fail
          ((with_reducible refine (share_calls (1099511627776 + (1 + u)) 1 _).mono ?_); rintro e w12 ⟨f, rfl, hr, hc, hd⟩)
          rw [HFAR.out] at hc
          have tf := t_ne f
          rw [show nanB f = true from hc] at tf
          have HB12 := Aside0.mk (below_step HBG.out hd.below)
          have HK12 := Aside0.mk (Kd.C_below HKG.out hd.below)
          clear hr hc hd HBG HKG
          go_wp2_with fail
          ((with_reducible refine (best_calls (some ⟨g, 0, none⟩) 7 7 (edges v1 v4 r) _ HK12.out HW.out).mono ?_); rw [edges_best HE.out HRN.out]; rintro e w13 ⟨rfl, hd⟩)
          have HB13 := Aside0.mk (below_step HB12.out hd.below)
          clear hd HB12 HK12
          have HZ := Aside0.mk (heap_alloc_new w13 (.cells #[.float .f64 r, .float .f64 9223372036854775808, .float .f64 0, .float .f64 9223372036854775808] 24))
          have HB14 := Aside0.mk (below_alloc HB13.out (.cells #[.float .f64 r, .float .f64 9223372036854775808, .float .f64 0, .float .f64 9223372036854775808] 24))
          go_wp2_with fail
          ((with_reducible refine (best_calls (some ⟨w13.heap.size, 0, none⟩) 4 4 [r, 9223372036854775808, 0, 9223372036854775808] _ (kf_new [r, 9223372036854775808, 0, 9223372036854775808] 4 rfl (by omega) HZ.out) (by intro q hq; simp at hq; rcases hq with rfl | rfl | rfl | rfl; exact HRB.out; decide; decide; decide)).mono ?_); rw [best_four HRN.out]; rintro e w15 ⟨rfl, hd⟩)
          have HB15 := Aside0.mk (below_step HB14.out hd.below)
          clear hd HB14 HZ
          have HZ := Aside0.mk (heap_alloc_new w15 (.cells #[.float .f64 18442240474082181120, .float .f64 r] 24))
          have HB16 := Aside0.mk (below_alloc HB15.out (.cells #[.float .f64 18442240474082181120, .float .f64 r] 24))
          go_wp2_with fail
          ((with_reducible refine (best_calls (some ⟨w15.heap.size, 0, none⟩) 2 2 [18442240474082181120, r] _ (kf_new [18442240474082181120, r] 2 rfl (by omega) HZ.out) (by intro q hq; simp at hq; rcases hq with rfl | rfl; decide; exact HRB.out)).mono ?_); rw [best_two HRN.out]; rintro e w17 ⟨rfl, hd⟩)
          have HB17 := Aside0.mk (below_step HB16.out hd.below)
          clear hd HB16 HZ
          go_wp2_with fail
          ((with_reducible refine (share_calls 1099511627776 1 _).mono ?_); rintro e w18 ⟨q, rfl, hr, hc, hd⟩)
          rw [shareFar] at hc
          obtain rfl : q = 4787326403894837248 := hc
          have HB18 := Aside0.mk (below_step HB17.out hd.below)
          clear hr hd
          go_wp2_with fail
          ((with_reducible refine (text_pos 4787326403894837248 _ _ (by decide) (by decide) (by decide) (by decide) saysFar (HT.out.below HB18.out)).mono ?_); rintro e w19 ⟨rfl, hb⟩)
          have HB19 := Aside0.mk (below_step HB18.out hb)
          clear hb
          go_wp2_with fail
          ((with_reducible refine (text_pos 4831355200913801216 _ _ (by decide) (by decide) (by decide) (by decide) saysBig (HT.out.below HB19.out)).mono ?_); rintro e w20 ⟨rfl, hb⟩)
          have HB20 := Aside0.mk (below_step HB19.out hb)
          clear hb
          go_wp2_with fail
          ((with_reducible refine (text_neg 14054727237768577024 ⟨#[98, 105, 103]⟩ _ (by decide) (by decide) (by decide) (by decide) (by rw [show Op.negFloat .f64 14054727237768577024 = 4831355200913801216 from by decide +kernel]; exact saysBig) (by decide) (HT.out.below HB20.out)).mono ?_); rw [show ((⟨#[45]⟩ : ByteArray) ++ ⟨#[98, 105, 103]⟩) = ⟨#[45, 98, 105, 103]⟩ from by decide +kernel]; rintro e w21 ⟨rfl, hb⟩)
          have HB21 := Aside0.mk (below_step HB20.out hb)
          clear hb
          go_wp2_with fail
          ((with_reducible refine (wakes01_calls _ (HT.out.below HB21.out)).mono ?_); rintro e w22 ⟨rfl, hb⟩)
          go_wp2
          go_ret
          exact ⟨rfl, below_step HB21.out hb⟩
theorem gaugeEdges_law (n : Int) (w : World) (hL : laidMetH Tryd.prog Rows.gaugeEdgesRow.laid w) (hn : (Lit.int .i64 n).wf = true) :
    Calls Tryd.prog 6 #[.int .i64 n] w fun e w' => e = .returned (.bool true) ∧ Below w.heap.size w w' :=
  gaugeEdges_calls n w (tens_of_laid hL)
end Go.Proofs.YtolecdgpfflijaaDoor
