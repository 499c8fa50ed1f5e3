/- The laws' Super of numbers. -/
import Derived.Test.YtodhgohbcjnjfaaSuperUnpack
namespace Go.Proofs.Ytodhgohbcjnjfaa
open Go.RowKit Go.Proofs.YtodhgohbcjnjfaaW.PrintWords Go.Proofs.YtodhgohbcjnjfaaW.PrintLast Go.Proofs.YtodhgohbcjnjfaaW.PrintMore
set_option linter.unusedVariables false
set_option linter.unusedSimpArgs false
set_option maxRecDepth 100000
def nthP (l : List Int) (i : Nat) (most : Int) : Int := if i < l.length then wi (rd l i) most else 1
theorem nthP_bd (l : List Int) (i : Nat) (most : Int) (h : 2 ≤ most) : 0 ≤ nthP l i most ∧ nthP l i most < most := by
  unfold nthP
  split
  · exact wi_bd _ _ (by omega)
  · omega
set_option maxHeartbeats 1000000 in
theorem nth_calls (A : Option Addr) (nl c : Nat) (l : List Int) (i : Nat) (ii : Int) (hi : ii = i) (most : Int) (w : World) (hr : RI w A nl l) (hm : most ≤ 9223372036854775807) :
    Calls Try.prog 84 #[.slice A nl c, .int .i64 ii, .int .i64 most] w fun e w' => e = .returned (.int .i64 (nthP l i most)) ∧ w = w' := by
  subst hi
  obtain rfl : l.length = nl := Kd.C_len hr
  have hmax := Kd.C_max hr
  by_cases h : i < l.length
  · obtain ⟨ad, e, hx⟩ := Kd.at_int hr (i : Int) (by omega) (by omega)
    subst e
    simp only [Int.toNat_natCast] at hx
    have HN := Aside0.mk (show nthP l i most = wi (rd l i) most from if_pos h)
    have h1 : (i : Int) < (l.length : Int) := by omega
    have h0 : (0 : Int) ≤ (i : Int) := by omega
    generalize rd l i = x at *
    clear hr
    go_enter Try.func84, Try.ntmps84
    go_wp2_with fail
    refine (within_calls _ _ _ hm).mono ?_
    rintro e w1 ⟨rfl, rfl⟩
    go_wp2
    go_ret
    exact ⟨by rw [HN.out]; rfl, rfl⟩
  · have HN := Aside0.mk (show nthP l i most = 1 from if_neg h)
    have h1 : ¬ (i : Int) < (l.length : Int) := by omega
    clear hr h
    go_enter Try.func84, Try.ntmps84
    go_wp2
    go_ret
    exact ⟨by rw [HN.out]; rfl, rfl⟩
def supL (l : List Int) : Sup := ⟨nthP l 0 9, nthP l 1 2, nthP l 2 40, nthP l 3 40, nthP l 4 3000⟩
def lastP (l : List Int) : Int := if 0 < l.length then rd l ((l.length - 1 : Nat) : Int) else 0
def supH (s : Sup) (x : Int) (k : Int) : Sup := ⟨if k = 9 then x else s.ep, if k = 10 then x else s.gn, if k = 11 then x else s.nx, if k = 12 then x else s.st, if k = 13 then x else s.sz⟩
/-- The law's Super of numbers. -/
def supOfL (l : List Int) (how : Int) : Sup := supH (supL l) (lastP l) (wi how 14)
theorem supOfL_0 (l : List Int) : supOfL l 0 = supL l := rfl
theorem supL_may (l : List Int) : (supL l).may = true := by
  have h1 := nthP_bd l 0 9 (by omega)
  have h2 := nthP_bd l 1 2 (by omega)
  have h3 := nthP_bd l 2 40 (by omega)
  have h4 := nthP_bd l 3 40 (by omega)
  have h5 := nthP_bd l 4 3000 (by omega)
  unfold Sup.may
  rw [Bool.and_eq_true]
  refine ⟨?_, decide_eq_true (show nthP l 1 2 ≤ 1 by omega)⟩
  simp only [Sup.ns, supL, List.all_cons, List.all_nil, b31, Bool.and_eq_true, decide_eq_true_eq, and_true]
  omega
set_option maxHeartbeats 4000000 in
theorem supof_calls (A : Option Addr) (nl c : Nat) (l : List Int) (how : Int) (w : World) (hr : RI w A nl l) :
    Calls Try.prog 27 #[.slice A nl c, .int .i64 how] w fun e w' => e = .returned (supOfL l how).val ∧ Below w.heap.size w w' := by
  obtain rfl : l.length = nl := Kd.C_len hr
  have hmax := Kd.C_max hr
  have HR := Aside0.mk hr
  have HL := Aside0.mk (show supL l = ⟨nthP l 0 9, nthP l 1 2, nthP l 2 40, nthP l 3 40, nthP l 4 3000⟩ from rfl)
  have HP := Aside0.mk (show supOfL l how = supH (supL l) (lastP l) (wi how 14) from rfl)
  clear hr
  go_enter Try.func27, Try.ntmps27
  go_wp2_with fail
  refine (nth_calls A _ c l 0 0 rfl 9 _ (Kd.C_below HR.out (below_alloc (Below.refl _ _) _)) (by omega)).mono ?_
  rintro e w1 ⟨rfl, rfl⟩
  go_wp2_with fail
  refine (nth_calls A _ c l 1 1 rfl 2 _ (Kd.C_below HR.out (below_alloc (Below.refl _ _) _)) (by omega)).mono ?_
  rintro e w1 ⟨rfl, rfl⟩
  go_wp2_with fail
  refine (nth_calls A _ c l 2 2 rfl 40 _ (Kd.C_below HR.out (below_alloc (Below.refl _ _) _)) (by omega)).mono ?_
  rintro e w1 ⟨rfl, rfl⟩
  go_wp2_with fail
  refine (nth_calls A _ c l 3 3 rfl 40 _ (Kd.C_below HR.out (below_alloc (Below.refl _ _) _)) (by omega)).mono ?_
  rintro e w1 ⟨rfl, rfl⟩
  go_wp2_with fail
  refine (nth_calls A _ c l 4 4 rfl 3000 _ (Kd.C_below HR.out (below_alloc (Below.refl _ _) _)) (by omega)).mono ?_
  rintro e w1 ⟨rfl, rfl⟩
  go_upto_if 20 with (fail)
  obtain ⟨W, hW⟩ : ∃ W, W = ((w.alloc (.cells #[.int .i64 0, .int .i64 0, .int .i64 0, .int .i64 0, .int .i64 0] 66)).alloc (.cells #[.int .i64 (nthP l 0 9), .int .i64 (nthP l 1 2), .int .i64 (nthP l 2 40), .int .i64 (nthP l 3 40), .int .i64 (nthP l 4 3000)] 66)) := ⟨_, rfl⟩
  rw [← hW]
  have hs : W.heap.size = w.heap.size + 2 := by rw [hW]; simp
  have HBW := Aside0.mk (show Below w.heap.size w W by rw [hW]; exact below_alloc (below_alloc (Below.refl _ _) _) _)
  have HZ := Aside0.mk (show W.heap[w.heap.size]? = some (.cells #[.int .i64 0, .int .i64 0, .int .i64 0, .int .i64 0, .int .i64 0] 66 (0, 0)) by rw [hW, Below.heap_alloc _ _ _ (by simp)]; exact heap_alloc_new w _)
  have HX := Aside0.mk (show W.heap[w.heap.size + 1]? = some (.cells #[.int .i64 (nthP l 0 9), .int .i64 (nthP l 1 2), .int .i64 (nthP l 2 40), .int .i64 (nthP l 3 40), .int .i64 (nthP l 4 3000)] 66 (0, 0)) by
    rw [hW]
    have h := heap_alloc_new (w.alloc (.cells #[.int .i64 0, .int .i64 0, .int .i64 0, .int .i64 0, .int .i64 0] 66)) (.cells #[.int .i64 (nthP l 0 9), .int .i64 (nthP l 1 2), .int .i64 (nthP l 2 40), .int .i64 (nthP l 3 40), .int .i64 (nthP l 4 3000)] 66)
    rw [show (w.alloc (.cells #[.int .i64 0, .int .i64 0, .int .i64 0, .int .i64 0, .int .i64 0] 66)).heap.size = w.heap.size + 1 from by simp] at h
    exact h)
  clear hW
  go_cut [6] (fun s6 wx => s6 = .int .i64 (lastP l) ∧ Aside0 (wx = W))
  case first =>
    by_cases h0 : 0 < l.length
    · have HRW := Aside0.mk (Kd.C_below HR.out HBW.out)
      obtain ⟨ad, e, hx⟩ := Kd.at_int HRW.out ((l.length : Int) - 1) (by omega) (by omega)
      subst e
      rw [show ((l.length : Int) - 1).toNat = l.length - 1 from by omega] at hx
      have HLP := Aside0.mk (show lastP l = rd l ((l.length - 1 : Nat) : Int) from if_pos h0)
      rw [show ((l.length : Int) - 1) = ((l.length - 1 : Nat) : Int) from by omega] at hx
      generalize rd l ((l.length - 1 : Nat) : Int) = x at *
      have i0 : (0 : Int) ≤ (l.length : Int) - 1 := by omega
      have i1 : (l.length : Int) - 1 < (l.length : Int) := by omega
      go_wp2_with fail
      go_meet
      exact ⟨by rw [HLP.out], ⟨rfl⟩⟩
    · have HLP := Aside0.mk (show lastP l = 0 from if_neg h0)
      go_wp2_with fail
      go_meet
      exact ⟨by rw [HLP.out], ⟨rfl⟩⟩
  case rest =>
    obtain ⟨rfl, ⟨rfl⟩⟩ := hcut
    go_wp2_with fail
    refine (within_calls _ _ _ (by omega)).mono ?_
    rintro e w1 ⟨rfl, rfl⟩
    go_upto_block 0 with (fail)
    have HX0 := HX.out
    have fx := fun i => blk_frozen HX.out i
    generalize wi how 14 = k at *
    go_cut [] (fun wx => Aside0 (wx.heap[w.heap.size + 1]? = some (.cells #[.int .i64 (supOfL l how).ep, .int .i64 (supOfL l how).gn, .int .i64 (supOfL l how).nx, .int .i64 (supOfL l how).st, .int .i64 (supOfL l how).sz] 66 (0, 0))) ∧ Aside0 (wx.heap[w.heap.size]? = some (.cells #[.int .i64 0, .int .i64 0, .int .i64 0, .int .i64 0, .int .i64 0] 66 (0, 0))) ∧ Aside0 (Below w.heap.size w wx))
    case first =>
      generalize lastP l = x at *
      have HS := Aside0.mk (fun (i : Nat) => blk_set HX.out i (.int .i64 x))
      have HF := Aside0.mk (fun (i : Nat) => blk_far HZ.out (p := ⟨w.heap.size + 1, i, none⟩) (show w.heap.size ≠ w.heap.size + 1 by omega) (.int .i64 x))
      have HBS := Aside0.mk (fun (i : Nat) => (HBW.out.setCell (p := ⟨w.heap.size + 1, i, none⟩) (Nat.le_succ _) (.int .i64 x)))
      by_cases h0 : k = 9
      · subst h0
        have f0 := fx 0
        have g0 := blk_cell HX.out 0
        clear fx HX0
        go_wp2_with fail
        go_meet
        refine ⟨⟨(HS.out 0).trans (by rw [HP.out, HL.out]; simp [supH])⟩, ⟨HF.out 0⟩, ⟨HBS.out 0⟩⟩
      by_cases h1 : k = 10
      · subst h1
        clear h0
        have f1 := fx 1
        have g1 := blk_cell HX.out 1
        clear fx HX0
        go_wp2_with fail
        go_meet
        refine ⟨⟨(HS.out 1).trans (by rw [HP.out, HL.out]; simp [supH])⟩, ⟨HF.out 1⟩, ⟨HBS.out 1⟩⟩
      by_cases h2 : k = 11
      · subst h2
        clear h0
        clear h1
        have f2 := fx 2
        have g2 := blk_cell HX.out 2
        clear fx HX0
        go_wp2_with fail
        go_meet
        refine ⟨⟨(HS.out 2).trans (by rw [HP.out, HL.out]; simp [supH])⟩, ⟨HF.out 2⟩, ⟨HBS.out 2⟩⟩
      by_cases h3 : k = 12
      · subst h3
        clear h0
        clear h1
        clear h2
        have f3 := fx 3
        have g3 := blk_cell HX.out 3
        clear fx HX0
        go_wp2_with fail
        go_meet
        refine ⟨⟨(HS.out 3).trans (by rw [HP.out, HL.out]; simp [supH])⟩, ⟨HF.out 3⟩, ⟨HBS.out 3⟩⟩
      by_cases h4 : k = 13
      · subst h4
        clear h0
        clear h1
        clear h2
        clear h3
        have f4 := fx 4
        have g4 := blk_cell HX.out 4
        clear fx HX0
        go_wp2_with fail
        go_meet
        refine ⟨⟨(HS.out 4).trans (by rw [HP.out, HL.out]; simp [supH])⟩, ⟨HF.out 4⟩, ⟨HBS.out 4⟩⟩
      have b0 : (k == 9) = false := by simp [h0]
      have b1 : (k == 10) = false := by simp [h1]
      have b2 : (k == 11) = false := by simp [h2]
      have b3 : (k == 12) = false := by simp [h3]
      have b4 : (k == 13) = false := by simp [h4]
      go_wp2_with fail
      go_meet
      refine ⟨⟨HX.out.trans (by rw [HP.out, HL.out]; simp [supH, h0, h1, h2, h3, h4])⟩, HZ, HBW⟩
    case rest =>
      obtain ⟨HX', HZ', HB'⟩ := hcut
      clear HX HZ HX0 fx HBW
      have hx := HX'.out
      have hz := HZ'.out
      have hb := HB'.out
      have HV := Aside0.mk (show (supOfL l how).val = .agg #[.int .i64 (supOfL l how).ep, .int .i64 (supOfL l how).gn, .int .i64 (supOfL l how).nx, .int .i64 (supOfL l how).st, .int .i64 (supOfL l how).sz] from rfl)
      generalize (supOfL l how).ep = v0 at *
      generalize (supOfL l how).gn = v1 at *
      generalize (supOfL l how).nx = v2 at *
      generalize (supOfL l how).st = v3 at *
      generalize (supOfL l how).sz = v4 at *
      have x0 := blk_cell hx 0
      have x1 := blk_cell hx 1
      have x2 := blk_cell hx 2
      have x3 := blk_cell hx 3
      have x4 := blk_cell hx 4
      have z0 := blk_cell hz 0
      have z1 := blk_cell hz 1
      have z2 := blk_cell hz 2
      have z3 := blk_cell hz 3
      have z4 := blk_cell hz 4
      have f0 := blk_frozen hz 0
      have f1 := blk_frozen hz 1
      have f2 := blk_frozen hz 2
      have f3 := blk_frozen hz 3
      have f4 := blk_frozen hz 4
      clear hx hz hb
      go_wp2
      obtain ⟨W3, hW3⟩ : ∃ W3, W3 = (((((wc.setCell ⟨w.heap.size, 0, none⟩ (.int .i64 v0)).setCell ⟨w.heap.size, 1, none⟩ (.int .i64 v1)).setCell ⟨w.heap.size, 2, none⟩ (.int .i64 v2)).setCell ⟨w.heap.size, 3, none⟩ (.int .i64 v3)).setCell ⟨w.heap.size, 4, none⟩ (.int .i64 v4)) := ⟨_, rfl⟩
      rw [← hW3]
      have h5 := blk_set5 HZ'.out (.int .i64 v0) (.int .i64 v1) (.int .i64 v2) (.int .i64 v3) (.int .i64 v4)
      rw [← hW3] at h5
      have HB5 := Aside0.mk (below_set5 HB'.out (Nat.le_refl _) (.int .i64 v0) (.int .i64 v1) (.int .i64 v2) (.int .i64 v3) (.int .i64 v4))
      rw [← hW3] at HB5
      clear hW3
      have e0 := blk_cell h5 0
      have e1 := blk_cell h5 1
      have e2 := blk_cell h5 2
      have e3 := blk_cell h5 3
      have e4 := blk_cell h5 4
      refine bodyPost_ret (v := .agg #[.int .i64 v0, .int .i64 v1, .int .i64 v2, .int .i64 v3, .int .i64 v4]) (by simp [results, Try.results27, go_sem, e0, e1, e2, e3, e4]) rfl ⟨?_, HB5.out⟩
      rw [HV.out]
end Go.Proofs.Ytodhgohbcjnjfaa
