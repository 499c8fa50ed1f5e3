/- DiskKeeps returns true: which sectors stay, by the digits of a number; the first that does not is torn. -/
import Derived.Test.YtcgmnmohpkolmaaDiskKeepsPure
import Derived.Test.YtcgmnmohpkolmaaSamei
namespace Go.Proofs.Ytcgmnmohpkolmaa
open Go.RowKit Go.Proofs.YtcgmnmohpkolmaaW.PrintWords Go.Proofs.YtcgmnmohpkolmaaW.PrintLast Go.Proofs.YtcgmnmohpkolmaaW.PrintMore
set_option linter.unusedVariables false
set_option linter.unusedSimpArgs false
set_option maxRecDepth 100000
set_option maxHeartbeats 8000000 in
theorem diskKeeps_calls (keep torn : Int) (w : World) (hi1 : (Lit.int .i64 keep).wf = true) (hi2 : (Lit.int .i64 torn).wf = true) :
    Calls Try.prog 8 #[.int .i64 keep, .int .i64 torn] w fun e w' => e = .returned (.bool true) ∧ Below w.heap.size w w' := by
  clear hi1 hi2
  go_enter Try.func8, Try.ntmps8
  go_wp2_with fail
  refine (new_calls 8 8 rfl _ (by omega) (by omega)).mono ?_
  rintro e w1 ⟨a, rfl, h1, ha, hb1⟩
  have H1 := Aside0.mk h1
  have HB1 := Aside0.mk hb1
  have HA := Aside0.mk ha
  clear h1 hb1 ha
  have hwi := wi_bd keep 32 (by omega)
  go_wp2_with fail
  refine (within_calls _ _ _ (by omega)).mono ?_
  rintro e w3 ⟨rfl, rfl⟩
  obtain ⟨q, hq⟩ : ∃ q : Nat, wi keep 32 = (q : Int) := ⟨(wi keep 32).toNat, by omega⟩
  rw [hq] at hwi ⊢
  clear hq
  have hwj := wi_bd torn 65 (by omega)
  go_wp2_with fail
  refine (within_calls _ _ _ (by omega)).mono ?_
  rintro e w3 ⟨rfl, rfl⟩
  obtain ⟨t, ht⟩ : ∃ t : Nat, wi torn 65 = (t : Int) := ⟨(wi torn 65).toNat, by omega⟩
  rw [ht] at hwj ⊢
  clear ht
  have ht64 : t ≤ 64 := by omega
  have HK := Aside0.mk (C_new (W := w1) (fz := (0, 0)) (e := 3) (Kd.int .i64) (reps_nums .i64 w1 0 (fun _ => True) kpIn) (by decide))
  go_wp2
  go_loopw [23] (fun i wr => ∃ k : Nat, k ≤ 5 ∧ i = .int .i64 k ∧ Aside0 (Dsk wr a 8 (kst k)) ∧ Aside0 (RI wr (some ⟨w1.heap.size, 0, none⟩) 5 kpIn) ∧ Aside0 (Below w.heap.size w wr)) (fun i _ => 5 - (intOf i).toNat)
  case atStart => exact ⟨0, by omega, rfl, ⟨H1.out.after (below_alloc (Below.refl _ _) _)⟩, HK, ⟨below_alloc HB1.out _⟩⟩
  case round =>
    obtain ⟨k, hk, rfl, HD, HR, HB⟩ := hrel
    by_cases hlt : k < 5
    · obtain ⟨ad, e, hx⟩ := Kd.at_int HR.out (k : Int) (by omega) (by omega)
      cases e
      simp only [Int.toNat_natCast, add_plain] at hx
      have hbd := kpIn_bd k hlt
      have HWR := Aside0.mk (kst_write k hlt)
      have i0 : (0 : Int) ≤ (k : Int) := by omega
      have i1 : (k : Int) < 5 := by omega
      generalize rd kpIn k = x at *
      go_wp2_with fail
      refine (sector_calls _ _ (by omega)).mono ?_
      rintro e w4 ⟨v4, rfl, ho4, hb4⟩
      obtain ⟨A4, c4, rfl, hc4, hC4⟩ := OB_reads ho4
      have HA4 := Aside0.mk (OB_away ho4 rfl (by simp) HD.out.lt)
      have HC4 := Aside0.mk hC4
      have H4 := Aside0.mk (HD.out.after hb4)
      have HR4 := Aside0.mk (Kd.C_below HR.out hb4)
      have HB4 := Aside0.mk (below_step HB.out hb4)
      clear ho4 hb4 hC4
      rw [List.length_replicate] at hc4 HC4 ⊢
      go_wp2_with fail
      refine (write_calls a 8 _ x _ _ _ (List.replicate 64 (50 + x)) _ H4.out HC4.out (byt_rep _ _ (by omega)) HA4.out).mono ?_
      rw [HWR.out]
      rintro e w5 ⟨rfl, h5, hb5⟩
      have H5 := Aside0.mk h5
      have HR5 := Aside0.mk (RI_but HR4.out hb5 (fun ad e hh => by
        cases e
        have := H1.out.lt _ hh
        simp only at this
        omega))
      have HB5 := Aside0.mk (But.step HB4.out hb5 HA.out)
      clear h5 hb5 HC4 HA4
      go_wp2
      go_roundw
      case rel => exact ⟨k + 1, by omega, by go_num, H5, HR5, HB5⟩
      case measure => simp [intOf]; omega
    · obtain rfl : k = 5 := by omega
      clear HR HK
      go_wp2_with fail
      refine (pending_calls a 8 _ _ HD.out).mono ?_
      rintro e w6 ⟨v6, rfl, ho6, hb6⟩
      rw [kst_pending] at ho6
      obtain ⟨A6, c6, rfl, hc6, hC6⟩ := Kd.R_reads ho6
      rw [show kpOut.length = 5 from rfl] at hc6 hC6 ⊢
      have HC6 := Aside0.mk hC6
      have H6 := Aside0.mk (HD.out.after hb6)
      have HB6 := Aside0.mk (below_step HB.out hb6)
      have HK7 := Aside0.mk (C_new (W := w6) (fz := (0, 0)) (e := 3) (Kd.int .i64) (reps_nums .i64 w6 0 (fun _ => True) kpOut) (by decide))
      clear ho6 hb6 hC6
      go_wp2_with fail
      refine (samei_calls _ _ _ kpOut _ _ _ kpOut _ (Kd.C_alloc HC6.out _) HK7.out).mono ?_
      rintro e w7 ⟨rfl, ⟨m7, rfl⟩⟩
      have H7 := Aside0.mk ((H6.out.after (below_alloc (Below.refl _ _) (.cells (nums .i64 kpOut).toArray 3))).drewN m7)
      have HB7 := Aside0.mk (pw_below_drewN (below_alloc HB6.out (.cells (nums .i64 kpOut).toArray 3)) m7)
      go_wp2_with fail
      refine (crash_calls a 8 _ (q : Int) (t : Int) _ H7.out (by omega)).mono ?_
      rintro e w8 ⟨rfl, w8', hb8, hb8', h8⟩
      have H8 := Aside0.mk h8
      have HB8 := Aside0.mk (But.step (below_step HB7.out hb8) hb8' HA.out)
      clear h8 hb8 hb8' H7 HB7
      have HK9 := Aside0.mk (C_new (W := w8) (fz := (0, 0)) (e := 3) (Kd.int .i64) (reps_nums .i64 w8 0 (fun _ => True) kpOut) (by decide))
      have HF := Aside0.mk (show lose (kst 5).old (q : Int) 0 (if true = true then t else 0) (kpOut.drop 0) (kst 5).now = ((kst 5).crash q t).now from by
        unfold DS.crash
        rw [kst_pending]
        show _ = lose _ _ 0 (clamp t) _ _
        rw [if_pos rfl, List.drop_zero, show clamp (t : Int) = t from by unfold clamp; omega])
      have HS0 := Aside0.mk (show ((kst 5).crash q t).now.getD 0 [] = List.replicate 64 0 from by
        unfold DS.crash
        rw [kst_pending]
        show (lose _ _ 0 _ _ _).getD 0 [] = _
        rw [lose_other _ _ _ _ _ _ _ (by decide), kst_now0])
      generalize (kst 5).crash q t = S at *
      have hq32 : q < 32 := by omega
      clear hwi hwj
      go_wp2
      go_loopw [8, 46] (fun b i wr => ∃ (k : Nat) (f : Bool) (now : List (List Int)), k ≤ 5 ∧ i = .int .i64 k ∧ b = .bool f ∧ Aside0 (now.length = 8) ∧ Aside0 (lose (kst 5).old (q : Int) k (if f = true then t else 0) (kpOut.drop k) now = S.now) ∧ Aside0 (∀ j, k ≤ j → j < 5 → now.getD (rd kpOut j).toNat [] = List.replicate 64 (50 + rd kpOut j)) ∧ Aside0 (Dsk wr a 8 S) ∧ Aside0 (RI wr (some ⟨w8.heap.size, 0, none⟩) 5 kpOut) ∧ Aside0 (Below w.heap.size w wr)) (fun _ i _ => 5 - (intOf i).toNat)
      case atStart => exact ⟨0, true, (kst 5).now, by omega, rfl, rfl, ⟨kst_len⟩, HF, ⟨fun j _ hj => kst_now j hj⟩, ⟨H8.out.after (below_alloc (Below.refl _ _) _)⟩, HK9, ⟨below_alloc HB8.out _⟩⟩
      case round =>
        obtain ⟨k, f, now, hk, rfl, rfl, HNL, HNF, HNN, HD, HR, HB⟩ := hrel
        clear HF H8 HK9 HB8 HC6 H6 HB6 HK7
        by_cases hlt : k < 5
        · obtain ⟨ad, e, hx⟩ := Kd.at_int HR.out (k : Int) (by omega) (by omega)
          cases e
          simp only [Int.toNat_natCast, add_plain] at hx
          have hbd := kpOut_bd k hlt
          have HST := Aside0.mk (keep_step (q : Int) t ht64 f k hlt now S.now HNL.out HNF.out HNN.out)
          have i0 : (0 : Int) ≤ (k : Int) := by omega
          have i1 : (k : Int) < 5 := by omega
          obtain ⟨x, hxx⟩ : ∃ x, x = rd kpOut k := ⟨_, rfl⟩
          rw [← hxx] at hx hbd
          have HX := Aside0.mk hxx
          clear hxx
          go_wp2_with fail
          refine (sector_calls _ _ (by omega)).mono ?_
          rintro e w4 ⟨v4, rfl, ho4, hb4⟩
          obtain ⟨g4, c4, rfl, hg4, hgl4, _⟩ := Kd.R_form ho4 (by simp)
          have hgw8 : w8.heap.size < g4 := Nat.lt_of_lt_of_le (World.block_lt_of_cell? _ _ hx) hg4
          have HO4 := Aside0.mk ho4
          have H4 := Aside0.mk (HD.out.after hb4)
          have HR4 := Aside0.mk (Kd.C_below HR.out hb4)
          have HB4 := Aside0.mk (below_step HB.out hb4)
          clear ho4 hb4
          simp only [List.length_replicate] at HO4 ⊢
          have HKT := Aside0.mk (kept_test q k (by omega) hlt)
          go_upto_if 59 with (fail)
          go_cut [8] (fun s8 wx => s8 = .bool (f && keptAt q k) ∧ Aside0 (RB wx (some ⟨g4, 0, none⟩) 64 (wantK q t f k)) ∧ Aside0 (Dsk wx a 8 S) ∧ Aside0 (RI wx (some ⟨w8.heap.size, 0, none⟩) 5 kpOut) ∧ Aside0 (Below w.heap.size w wx))
          case first =>
            cases hkp : keptAt q k
            · have hkt := HKT.out
              rw [hkp] at hkt
              have HKP := Aside0.mk hkp
              have HW := Aside0.mk (show wantK q t f k = List.replicate (if f = true then t else 0) (50 + x) ++ List.replicate (64 - (if f = true then t else 0)) 0 from by unfold wantK; rw [hkp, ← HX.out]; rfl)
              clear hkp
              simp only [Bool.not_false] at hkt
              cases f
              · simp only [Bool.false_eq_true, if_false] at HW
                go_wp2
                go_loopw [13] (fun j wr => ∃ m : Nat, 0 ≤ m ∧ m ≤ 64 ∧ j = .int .i64 m ∧ Aside0 (OB wr w.heap.size (.slice (some ⟨g4, 0, none⟩) 64 c4) (midK 0 m (50 + x))) ∧ Aside0 (Dsk wr a 8 S) ∧ Aside0 (RI wr (some ⟨w8.heap.size, 0, none⟩) 5 kpOut) ∧ Aside0 (Below w.heap.size w wr)) (fun j _ => 64 - (intOf j).toNat)
                case atStart => exact ⟨0, Nat.le_refl _, by omega, rfl, ⟨by rw [midK_start 0 _ (by omega)]; exact Kd.R_lower HO4.out HB.out.size⟩, H4, HR4, HB4⟩
                case round =>
                  obtain ⟨m, hm0, hm, rfl, HOm, HDm, HRm, HBm⟩ := hrel
                  by_cases hml : m < 64
                  · obtain ⟨hcm, hfm⟩ := OB_at HOm.out m hml
                    have HPm := Aside0.mk (OB_put HOm.out m 0)
                    rw [midK_set 0 m _ hm0 hml] at HPm
                    have m0 : (0 : Int) ≤ (m : Int) := by omega
                    have m1 : (m : Int) < 64 := by omega
                    have hng : ¬ a.has g4 := fun h => by have := HD.out.lt _ h; omega
                    generalize rd (midK 0 m (50 + x)) (m : Int) = u at *
                    go_wp2
                    go_roundw
                    case rel => exact ⟨m + 1, by omega, by omega, by go_num, HPm, ⟨HDm.out.far (p := ⟨g4, m, none⟩) hng _⟩, ⟨RI_but (S := fun i => i = g4) HRm.out (But.set (S := fun i => i = g4) (But.refl _ _) (p := ⟨g4, m, none⟩) rfl _) (fun ad e => by cases e; simp; omega)⟩, ⟨below_set HBm.out (Nat.le_trans HB.out.size hg4)⟩⟩
                    case measure => simp [intOf]; omega
                  · obtain rfl : m = 64 := by omega
                    go_wp2
                    go_meet
                    exact ⟨by rw [HKP.out, Bool.and_false], ⟨by rw [HW.out, ← midK_end 0 _ (by omega)]; have := (Kd.R_reads' HOm.out).2.2; rwa [midK_length _ _ _ (by omega) (by omega)] at this⟩, HDm, HRm, HBm⟩
              · simp only [if_true] at HW
                go_wp2
                go_loopw [13] (fun j wr => ∃ m : Nat, t ≤ m ∧ m ≤ 64 ∧ j = .int .i64 m ∧ Aside0 (OB wr w.heap.size (.slice (some ⟨g4, 0, none⟩) 64 c4) (midK t m (50 + x))) ∧ Aside0 (Dsk wr a 8 S) ∧ Aside0 (RI wr (some ⟨w8.heap.size, 0, none⟩) 5 kpOut) ∧ Aside0 (Below w.heap.size w wr)) (fun j _ => 64 - (intOf j).toNat)
                case atStart => exact ⟨t, Nat.le_refl _, by omega, rfl, ⟨by rw [midK_start t _ (by omega)]; exact Kd.R_lower HO4.out HB.out.size⟩, H4, HR4, HB4⟩
                case round =>
                  obtain ⟨m, hm0, hm, rfl, HOm, HDm, HRm, HBm⟩ := hrel
                  by_cases hml : m < 64
                  · obtain ⟨hcm, hfm⟩ := OB_at HOm.out m hml
                    have HPm := Aside0.mk (OB_put HOm.out m 0)
                    rw [midK_set t m _ hm0 hml] at HPm
                    have m0 : (0 : Int) ≤ (m : Int) := by omega
                    have m1 : (m : Int) < 64 := by omega
                    have hng : ¬ a.has g4 := fun h => by have := HD.out.lt _ h; omega
                    generalize rd (midK t m (50 + x)) (m : Int) = u at *
                    go_wp2
                    go_roundw
                    case rel => exact ⟨m + 1, by omega, by omega, by go_num, HPm, ⟨HDm.out.far (p := ⟨g4, m, none⟩) hng _⟩, ⟨RI_but (S := fun i => i = g4) HRm.out (But.set (S := fun i => i = g4) (But.refl _ _) (p := ⟨g4, m, none⟩) rfl _) (fun ad e => by cases e; simp; omega)⟩, ⟨below_set HBm.out (Nat.le_trans HB.out.size hg4)⟩⟩
                    case measure => simp [intOf]; omega
                  · obtain rfl : m = 64 := by omega
                    go_wp2
                    go_meet
                    exact ⟨by rw [HKP.out, Bool.and_false], ⟨by rw [HW.out, ← midK_end t _ (by omega)]; have := (Kd.R_reads' HOm.out).2.2; rwa [midK_length _ _ _ (by omega) (by omega)] at this⟩, HDm, HRm, HBm⟩
            · have hkt := HKT.out
              rw [hkp] at hkt
              have HKP := Aside0.mk hkp
              have HW := Aside0.mk (show wantK q t f k = List.replicate 64 (50 + x) from by unfold wantK; rw [if_pos hkp, ← HX.out])
              simp only [Bool.not_true] at hkt
              clear hkp
              go_wp2
              go_meet
              exact ⟨by rw [HKP.out, Bool.and_true], ⟨by rw [HW.out]; exact (Kd.R_reads' HO4.out).2.2⟩, H4, HR4, HB4⟩
          case rest =>
            obtain ⟨rfl, HO, HD5, HR5, HB5⟩ := hcut
            clear H4 HR4 HB4 HO4 HD HR HB HKT
            have hrd : S.read 8 x = S.now.getD x.toNat [] := if_pos (by unfold isB; exact decide_eq_true (by omega))
            have HRD := Aside0.mk hrd
            clear hrd
            obtain ⟨now', hw1, hl1, hF1, hn1⟩ := HST.out
            rw [← HX.out] at hw1
            have HW1 := Aside0.mk hw1
            have HL1 := Aside0.mk hl1
            have HF1 := Aside0.mk hF1
            have HN1 := Aside0.mk hn1
            clear hw1 hl1 hF1 hn1 HST hx
            generalize (f && keptAt q k) = f' at *
            go_wp2_with fail
            refine (read_calls a 8 _ x _ HD5.out).mono ?_
            rw [HRD.out, HW1.out]
            rintro e w6' ⟨v6', rfl, ho6, hb6⟩
            obtain ⟨A6', c6', rfl, hc6', hC6⟩ := OB_reads ho6
            have HCa := Aside0.mk hC6
            have HCb := Aside0.mk (Kd.C_below HO.out hb6)
            have HD6 := Aside0.mk (HD5.out.after hb6)
            have HR6 := Aside0.mk (Kd.C_below HR5.out hb6)
            have HB6' := Aside0.mk (below_step HB5.out hb6)
            clear ho6 hb6 hC6 hc6'
            go_wp2_with fail
            refine (sameb_calls _ _ _ (wantK q t f k) _ _ _ (wantK q t f k) _ HCa.out HCb.out).mono ?_
            rintro e w7' ⟨rfl, ⟨m7', rfl⟩⟩
            go_wp2
            go_roundw
            case rel => exact ⟨k + 1, f', now', by omega, by go_num, rfl, HL1, HF1, HN1, ⟨HD6.out.drewN _⟩, ⟨Kd.C_drewN HR6.out _⟩, ⟨pw_below_drewN HB6'.out _⟩⟩
            case measure => simp [intOf]; omega
        · obtain rfl : k = 5 := by omega
          have HRD := Aside0.mk (show S.read 8 0 = List.replicate 64 0 from by
            unfold DS.read
            rw [if_pos (by decide)]
            exact HS0.out)
          go_wp2_with fail
          refine (read_calls a 8 _ 0 _ HD.out).mono ?_
          rw [HRD.out]
          rintro e w6' ⟨v6', rfl, ho6, hb6⟩
          obtain ⟨A6', c6', rfl, hc6', hC6⟩ := OB_reads ho6
          have HCa := Aside0.mk hC6
          have HB6' := Aside0.mk (below_step HB.out hb6)
          clear ho6 hb6 hC6 hc6'
          rw [List.length_replicate] at HCa ⊢
          go_wp2_with fail
          refine (sector_calls 0 _ (by omega)).mono ?_
          rintro e w9 ⟨v9, rfl, ho9, hb9⟩
          obtain ⟨A9, c9, rfl, hc9, hC9⟩ := OB_reads ho9
          rw [List.length_replicate] at hC9 ⊢
          have HC9 := Aside0.mk hC9
          have HCa9 := Aside0.mk (Kd.C_below HCa.out hb9)
          have HB9 := Aside0.mk (below_step HB6'.out hb9)
          clear ho9 hb9 hC9 hc9
          go_wp2_with fail
          refine (sameb_calls _ _ _ (List.replicate 64 0) _ _ _ (List.replicate 64 0) _ HCa9.out HC9.out).mono ?_
          rintro e w10 ⟨rfl, ⟨m10, rfl⟩⟩
          go_wp2_with fail
          refine (wakes17_calls _).mono ?_
          rintro e w11 ⟨rfl, hb11⟩
          go_wp2
          go_ret
          exact ⟨rfl, below_step (pw_below_drewN HB9.out _) hb11⟩
end Go.Proofs.Ytcgmnmohpkolmaa
