/- AdlerTells returns true: any bytes' sum; sealed; opened, or that they are no seal; for at most 1048576 bytes. -/
import Derived.Test.YtcgmnmohpkolmaaRefAdler
import Derived.Test.YtcgmnmohpkolmaaLend
namespace Go.Proofs.Ytcgmnmohpkolmaa
open Go.RowKit Go.Proofs.YtcgmnmohpkolmaaW.PrintWords Go.Proofs.YtcgmnmohpkolmaaW.PrintLast Go.Proofs.YtcgmnmohpkolmaaW.PrintMore
set_option linter.unusedVariables false
set_option linter.unusedSimpArgs false
set_option maxRecDepth 100000
set_option maxHeartbeats 8000000 in
theorem adlerTells_calls (A : Option Addr) (c : Nat) (l : List Int) (cut flip long : Int) (w : World) (hr : RB w A l.length l) (hc : l.length ≤ c) (hy : l.length ≤ 1048576) (hw : ∀ x ∈ l, (Lit.int .u8 x).wf = true) (hi1 : (Lit.int .i64 cut).wf = true) (hi2 : (Lit.int .i64 flip).wf = true) (hi3 : (Lit.int .i64 long).wf = true) :
    Calls Try.prog 6 #[.slice A l.length c, .int .i64 cut, .int .i64 flip, .int .i64 long] w fun e w' => e = .returned (.bool true) ∧ Below w.heap.size w w' := by
  have HY := Aside0.mk (byt_of_wf hw)
  have HR := Aside0.mk hr
  clear hr hw hi1 hi2 hi3
  go_enter Try.func6, Try.ntmps6
  go_upto_if 23 with (fail)
  go_cut [0] (fun s0 wx => ∃ (A0 : Option Addr) (n0 c0 : Nat) (lb : List Int), s0 = .slice A0 n0 c0 ∧ Aside0 (n0 ≤ c0) ∧ Aside0 (n0 ≤ 1057576) ∧ Aside0 (RB wx A0 n0 lb) ∧ Aside0 (Byt lb) ∧ Aside0 (Below w.heap.size w wx))
  case first =>
    by_cases hl : (long.tmod 7 == 6) = true
    · go_wp2_with fail
      refine (copyb_calls _ _ _ _ _ HR.out (by omega)).mono ?_
      rintro e w1 ⟨v1, rfl, ho1, hb1⟩
      have hwi := wi_bd long 9000 (by omega)
      go_wp2_with fail
      refine (within_calls _ _ _ (by omega)).mono ?_
      rintro e w3 ⟨rfl, rfl⟩
      obtain ⟨k, hk⟩ : ∃ k : Nat, wi long 9000 = (k : Int) := ⟨(wi long 9000).toNat, by omega⟩
      rw [hk] at hwi ⊢
      clear hk
      obtain ⟨L, hL⟩ : ∃ L : List Int, L = l ++ List.replicate (k : Int).toNat 0 := ⟨_, rfl⟩
      have hLl : L.length ≤ 1057576 := by rw [hL]; simp only [List.length_append, List.length_replicate]; omega
      have HLY : Aside0 (Byt L) := ⟨by rw [hL]; exact HY.out.append (fun x hx => by have := List.eq_of_mem_replicate hx; omega)⟩
      have HL := Aside0.mk hL
      clear hL
      go_wp2_with (at_builtin; go_must (refine Kd.R_append_zeros (Kd.int .u8) (w0 := w) w.heap.size rfl _ _ 22 3 5 (.int .u8 0) 1 rfl Try.underlying22 Try.underlying3 infoB rfl (by decide) (by decide) v1 l 0 (k : Int) (fun _ => True) rfl rfl rfl (fun _ _ => trivial) ho1 (by omega) hb1 hb1.size (by simp; omega) ?_); intro v2 w2 ho2 hb2 hg2 hnew2; rw [← HL.out] at ho2; obtain ⟨A2, c2, rfl, hc2, hC2⟩ := OB_reads ho2; clear hC2 hg2 hnew2)
      have HO2 := Aside0.mk ho2
      have HB2 := Aside0.mk hb2
      clear ho1 hb1 ho2 hb2
      obtain ⟨M, hM⟩ : ∃ M : Nat, M = L.length := ⟨_, rfl⟩
      have HM := Aside0.mk hM
      rw [← hM] at hLl hc2 HO2 ⊢
      clear hM
      go_loopw [31] (fun i wr => ∃ (j : Nat) (L' : List Int), j ≤ M ∧ i = .int .i64 j ∧ Aside0 (L'.length = M) ∧ Aside0 (Byt L') ∧ Aside0 (OB wr w.heap.size (.slice A2 M c2) L') ∧ Aside0 (Below w.heap.size w wr)) (fun i _ => M - (intOf i).toNat)
      case atStart => exact ⟨0, L, by omega, rfl, ⟨HM.out.symm⟩, HLY, HO2, HB2⟩
      case round =>
        obtain ⟨j, L', hj, rfl, HL', HY', HO', HB'⟩ := hrel
        by_cases hjl : j < M
        · obtain ⟨g, cap, e, hg, hgl, _⟩ := Kd.R_form HO'.out (by rw [HL'.out]; omega)
          injection e with e1 e2 e3
          subst e1
          obtain ⟨hcell, hfz⟩ := OB_at HO'.out j hjl
          have HPUT := Aside0.mk (fun z => OB_put HO'.out j z)
          have hu := HY'.out.at_ j (by rw [HL'.out]; exact hjl)
          have i0 : (0 : Int) ≤ (j : Int) := by omega
          have i1 : (j : Int) < (M : Int) := by omega
          have HX := Aside0.mk (xor8 (rd L' j) 255 hu (by omega))
          clear e2 e3
          generalize rd L' j = u at *
          go_wp2
          go_roundw
          case rel => exact ⟨j + 1, L'.set j (bits .xor .u8 u 255), by omega, by go_num, ⟨by rw [List.length_set]; exact HL'.out⟩, ⟨fun y hy => by
            rcases List.mem_or_eq_of_mem_set hy with hy | rfl
            · exact HY'.out y hy
            · exact HX.out.1⟩, ⟨HPUT.out _⟩, ⟨below_set HB'.out hg⟩⟩
          case measure => simp [intOf]; omega
        · obtain rfl : j = M := by omega
          go_wp2
          go_meet
          exact ⟨A2, j, c2, L', rfl, ⟨by omega⟩, ⟨hLl⟩, ⟨by have := (Kd.R_reads' HO'.out).2.2; rwa [HL'.out] at this⟩, HY', HB'⟩
    · go_wp2_with fail
      go_meet
      exact ⟨A, _, c, l, rfl, ⟨hc⟩, ⟨by omega⟩, HR, HY, ⟨Below.refl _ _⟩⟩
  case rest =>
    obtain ⟨A0, n0, c0, lb, rfl, ⟨hc0⟩, ⟨hn0⟩, HB0, HY0, HW0⟩ := hcut
    clear HR HY hy hc
    have HN0 := Aside0.mk (Kd.C_len HB0.out)
    go_wp2_with fail
    refine (lend_calls _ _ _ lb _ HB0.out (by omega)).mono ?_
    rintro e w1 ⟨g1, rfl, hg1, hblk1, hb1⟩
    have HG1 := Aside0.mk hblk1
    have HW1 := Aside0.mk (below_step HW0.out hb1)
    have HB1 := Aside0.mk (Kd.C_below HB0.out hb1)
    clear hblk1 hb1
    have hlt1 := HG1.out.lt
    have HL1 := Aside0.mk (show RB w1 (some ⟨g1, 0, none⟩) n0 lb by
      have := HG1.out.reads n0 (by rw [lentB_length lb 3 (by omega), HN0.out]; omega) (by omega)
      rw [show (lentB lb 3).take n0 = lb from by rw [← HN0.out, lentB_take]] at this
      exact this)
    go_wp2_with fail
    refine (seal_calls _ _ _ lb _ HL1.out (by omega) HY0.out (by omega)).mono ?_
    rintro e w2 ⟨v2, rfl, ho2, hb2⟩
    obtain ⟨A2, c2, rfl, hc2, hC2⟩ := OB_reads ho2
    have hsl : (sealed lb).length = n0 + 4 := by rw [sealed_length, HN0.out]
    have HSL := Aside0.mk hsl
    rw [hsl] at hc2 hC2 ⊢
    have HC2 := Aside0.mk hC2
    have HB2 := Aside0.mk (Kd.C_below HB1.out hb2)
    have HL2 := Aside0.mk (Kd.C_below HL1.out hb2)
    have HG2 := Aside0.mk (HG1.out.below hb2 hlt1)
    have HW2 := Aside0.mk (below_step HW1.out hb2)
    clear hsl hC2 ho2 hb2
    go_wp2_with fail
    refine (of_calls _ _ _ lb _ HL2.out HY0.out).mono ?_
    rintro e w3 ⟨rfl, ⟨m3, rfl⟩⟩
    go_wp2_with fail
    refine (radler_calls _ _ _ lb _ (Kd.C_drewN HB2.out _) HY0.out).mono ?_
    rintro e w4 ⟨rfl, ⟨m4, rfl⟩⟩
    go_wp2_with fail
    refine (rseal_calls _ _ _ lb _ (Kd.C_drewN HB2.out _) HY0.out (by omega)).mono ?_
    rintro e w5 ⟨v5, rfl, ho5, hb5⟩
    obtain ⟨A5, c5, rfl, hc5, hC5⟩ := OB_reads ho5
    rw [HSL.out] at hc5 hC5 ⊢
    have hb5' := below_step (pw_below_drewN (Below.refl w2.heap.size w2) _) hb5
    have HC5 := Aside0.mk hC5
    have HC25 := Aside0.mk (Kd.C_below HC2.out hb5')
    have HB5 := Aside0.mk (Kd.C_below HB2.out hb5')
    have HG5 := Aside0.mk (HG2.out.below hb5' HG2.out.lt)
    have HW5 := Aside0.mk (below_step HW2.out hb5')
    clear hC5 ho5 hb5 hb5' HL1 HL2 HG1 HG2 HB1 HB2 HW1 HW2
    go_wp2_with fail
    refine (sameb_calls _ _ _ (sealed lb) _ _ _ (sealed lb) _ HC25.out HC5.out).mono ?_
    rintro e w6 ⟨rfl, ⟨m6, rfl⟩⟩
    go_wp2_with fail
    refine (intact_calls _ _ _ _ lb _ (HG5.out.drewN _) (Kd.C_drewN HB5.out _) (by omega)).mono ?_
    rintro e w7 ⟨rfl, ⟨m7, rfl⟩⟩
    go_wp2_with fail
    refine (rseal_calls _ _ _ lb _ (Kd.C_drewN HB5.out _) HY0.out (by omega)).mono ?_
    rintro e w8 ⟨v8, rfl, ho8, hb8⟩
    obtain ⟨A8, c8, rfl, hc8, hC8⟩ := OB_reads ho8
    rw [HSL.out] at hc8 ho8 ⊢
    have HO8 := Aside0.mk ho8
    have HW7 := Aside0.mk (pw_below_drewN HW5.out (m6 + m7))
    have HB7 := Aside0.mk (Kd.C_drewN HB5.out (m6 + m7))
    have HB78 := Aside0.mk hb8
    clear ho8 hb8 hC8 HC25 HC5 HC2 HG5 HW5 HB5
    generalize w5.drewN (m6 + m7) = w7 at *
    have hwi := wi_bd cut (2 * ((n0 : Int) + 4) + 1) (by omega)
    go_wp2_with fail
    refine (within_calls _ _ _ (by omega)).mono ?_
    rintro e w9 ⟨rfl, rfl⟩
    obtain ⟨k, hk⟩ : ∃ k : Nat, wi cut (2 * ((n0 : Int) + 4) + 1) = (k : Int) := ⟨(wi cut (2 * ((n0 : Int) + 4) + 1)).toNat, by omega⟩
    rw [hk] at hwi ⊢
    clear hk
    go_upto_if 74 with (fail)
    go_cut [12] (fun s12 wx => ∃ (n1 : Nat) (lc : List Int), s12 = .slice A8 n1 c8 ∧ Aside0 (n1 ≤ n0 + 4) ∧ Aside0 (lc.length = n1) ∧ Aside0 (Byt lc) ∧ Aside0 (OB wx w7.heap.size (.slice A8 n1 c8) lc) ∧ Aside0 (Below w7.heap.size w7 wx))
    case first =>
      by_cases hkn : k < n0 + 4
      · obtain ⟨hcu, hCu⟩ := cut_to (P := Try.prog) 22 5 Try.underlying22 infoB (k := Kd.int .u8) (w := w8) (A := A8) (xs := sealed lb) (c := c8) (by have := (Kd.R_reads' HO8.out).2.2; exact this) (by rw [HSL.out]; exact hc8) k k rfl (by rw [HSL.out]; omega)
        rw [HSL.out] at hcu
        clear hCu
        have HT := Aside0.mk (Kd.R_take HO8.out (m := k) (by rw [HSL.out]; omega))
        go_wp2_with fail
        go_meet
        exact ⟨k, (sealed lb).take k, rfl, ⟨by omega⟩, ⟨by rw [List.length_take, HSL.out]; omega⟩, ⟨(sealed_byt HY0.out).take k⟩, HT, HB78⟩
      · go_wp2_with fail
        go_meet
        exact ⟨n0 + 4, sealed lb, rfl, ⟨by omega⟩, HSL, ⟨sealed_byt HY0.out⟩, HO8, HB78⟩
    case rest =>
      obtain ⟨n1, lc, rfl, ⟨hn1⟩, HL1, HYC, HOC, HWC⟩ := hcut
      clear HO8 HB78
      have hwj := wi_bd flip (16 * (n1 : Int) + 1) (by omega)
      go_wp2_with fail
      refine (within_calls _ _ _ (by omega)).mono ?_
      rintro e w9 ⟨rfl, rfl⟩
      obtain ⟨k2, hk⟩ : ∃ k : Nat, wi flip (16 * (n1 : Int) + 1) = (k : Int) := ⟨(wi flip (16 * (n1 : Int) + 1)).toNat, by omega⟩
      rw [hk] at hwj ⊢
      clear hk
      go_upto_if 88 with (fail)
      go_cut [] (fun wx => ∃ (lc' : List Int), Aside0 (lc'.length = n1) ∧ Aside0 (Byt lc') ∧ Aside0 (OB wx w7.heap.size (.slice A8 n1 c8) lc') ∧ Aside0 (Below w7.heap.size w7 wx))
      case first =>
        by_cases hk8 : k2 < 8 * n1
        · obtain ⟨g, cap, e, hg, hgl, _⟩ := Kd.R_form HOC.out (by rw [HL1.out]; omega)
          injection e with e1 e2 e3
          subst e1
          obtain ⟨j, hj⟩ : ∃ j : Nat, j = k2 / 8 := ⟨_, rfl⟩
          have hjl : j < n1 := by omega
          obtain ⟨hcell, hfz⟩ := OB_at HOC.out j hjl
          have HPUT := Aside0.mk (fun z => OB_put HOC.out j z)
          have hu := HYC.out.at_ j (by rw [HL1.out]; exact hjl)
          have hq : (k2 : Int) / 8 = (j : Int) := by omega
          have i0 : (0 : Int) ≤ (j : Int) := by omega
          have i1 : (j : Int) < (n1 : Int) := by omega
          clear e2 e3 hj
          generalize rd lc j = u at *
          go_wp2_with fail
          go_meet
          refine ⟨lc.set j (bits .xor .u8 u (2 ^ (k2 % 8) % 256)), ⟨by rw [List.length_set]; exact HL1.out⟩, ⟨fun y hy => ?_⟩, ⟨HPUT.out _⟩, ⟨below_set HWC.out hg⟩⟩
          rcases List.mem_or_eq_of_mem_set hy with hy | rfl
          · exact HYC.out y hy
          · exact (xor8 u (2 ^ (k2 % 8) % 256) hu (by omega)).1
        · go_wp2_with fail
          go_meet
          exact ⟨lc, HL1, HYC, HOC, HWC⟩
      case rest =>
        obtain ⟨lc', HL', HY', HO', HW'⟩ := hcut
        obtain ⟨A8', c8', e8, hc8', hC8⟩ := OB_reads HO'.out
        injection e8 with e1 e2 e3
        subst e1 e3
        rw [HL'.out] at hc8' hC8
        have HW8 := Aside0.mk (below_step HW7.out HW'.out)
        have HB8 := Aside0.mk (Kd.C_below HB7.out HW'.out)
        have hK := C_new KBB (W := wc) (fz := (0, 0)) (e := 22) (xs := [lb, lc']) (inner := [.slice A0 n0 c0, .slice A8 n1 c8]) (Reps.one ⟨A0, c0, by rw [HN0.out], by rw [HN0.out]; exact hc0, by rw [HN0.out]; exact HB8.out⟩ (Reps.one ⟨A8, c8, by rw [HL'.out], by rw [HL'.out]; exact hc8', by rw [HL'.out]; exact hC8⟩ (Reps.none _ _))) (by simp)
        have HK := Aside0.mk hK
        have HYB := Aside0.mk (show ∀ k : Nat, k < 2 → Byt ([lb, lc'].getD k []) ∧ ([lb, lc'].getD k []).length ≤ 1057580 from fun k hk => by
          match k, hk with
          | 0, _ => exact ⟨HY0.out, by show lb.length ≤ _; rw [HN0.out]; omega⟩
          | 1, _ => exact ⟨HY'.out, by show lc'.length ≤ _; rw [HL'.out]; omega⟩)
        clear hK e2 HO' HY' HOC HYC HWC HW' hC8 HB8 HB7 HW7
        have HW9 := Aside0.mk (below_alloc HW8.out (.cells [Value.slice A0 n0 c0, .slice A8 n1 c8].toArray 22))
        go_wp2_with fail
        go_loopw [104] (fun i wr => ∃ j : Nat, j ≤ 2 ∧ i = .int .i64 j ∧ Aside0 (Kd.C KBB wr (some ⟨wc.heap.size, 0, none⟩) 2 [lb, lc']) ∧ Aside0 (Below w.heap.size w wr)) (fun i _ => 2 - (intOf i).toNat)
        case atStart => exact ⟨0, by omega, rfl, HK, HW9⟩
        case round =>
          obtain ⟨j, hj, rfl, HKr, HWr⟩ := hrel
          by_cases hj2 : j < 2
          · obtain ⟨ad, Ax, cx, e, hcell, hcx, hCx⟩ := at_row HKr.out j hj2
            cases e
            rw [add_plain] at hcell
            obtain ⟨hyx, hlx⟩ := HYB.out j hj2
            have HCX := Aside0.mk hCx
            have HYX := Aside0.mk hyx
            clear hCx hyx
            generalize [lb, lc'].getD j [] = lx at *
            have i0 : (0 : Int) ≤ (j : Int) := by omega
            have i1 : (j : Int) < 2 := by omega
            go_wp2_with fail
            refine (open_calls _ _ _ lx _ HCX.out hcx HYX.out (by omega)).mono ?_
            rintro e w1' ⟨v1, rfl, ho1, hb1⟩
            obtain ⟨A1, c1, rfl, hc1, hC1⟩ := OB_reads ho1
            have HC1 := Aside0.mk hC1
            have HCX1 := Aside0.mk (Kd.C_below HCX.out hb1)
            have HW1 := Aside0.mk (below_step HWr.out hb1)
            have HK1 := Aside0.mk (Kd.C_below HKr.out hb1)
            clear hC1 ho1 hb1
            go_wp2_with fail
            refine (ropen_calls _ _ _ lx _ HCX1.out hcx HYX.out (by omega)).mono ?_
            rintro e w2' ⟨v2, rfl, ho2, hb2⟩
            obtain ⟨A2', c2', rfl, hc2', hC2⟩ := OB_reads ho2
            have HC2' := Aside0.mk hC2
            have HC12 := Aside0.mk (Kd.C_below HC1.out hb2)
            have HW2' := Aside0.mk (below_step HW1.out hb2)
            have HK2 := Aside0.mk (Kd.C_below HK1.out hb2)
            clear hC2 ho2 hb2
            generalize opens lx = q at *
            go_wp2_with fail
            refine (sameb_calls _ _ _ (opened lx) _ _ _ (opened lx) _ HC12.out HC2'.out).mono ?_
            rintro e w3' ⟨rfl, ⟨m3', rfl⟩⟩
            go_wp2
            go_roundw
            case rel => exact ⟨j + 1, by omega, by go_num, ⟨Kd.C_drewN HK2.out _⟩, ⟨pw_below_drewN HW2'.out _⟩⟩
            case measure => simp [intOf]; omega
          · obtain rfl : j = 2 := by omega
            go_wp2_with fail
            refine (wakes_calls _).mono ?_
            rintro e w4' ⟨rfl, hb4⟩
            go_wp2
            go_ret
            exact ⟨rfl, below_step HWr.out hb4⟩
end Go.Proofs.Ytcgmnmohpkolmaa
