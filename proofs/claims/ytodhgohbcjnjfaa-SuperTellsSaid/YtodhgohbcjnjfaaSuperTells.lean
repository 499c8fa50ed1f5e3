/- SuperTells: what the law's function returns. -/
import Derived.Test.YtodhgohbcjnjfaaSuperBack
import Derived.Test.YtodhgohbcjnjfaaRefSuper2
import Derived.Test.YtodhgohbcjnjfaaKeep2
namespace Go.Proofs.Ytodhgohbcjnjfaa
open Go.RowKit Go.Proofs.YtodhgohbcjnjfaaW.PrintWords Go.Proofs.YtodhgohbcjnjfaaW.PrintLast Go.Proofs.YtodhgohbcjnjfaaW.PrintMore
set_option linter.unusedVariables false
set_option linter.unusedSimpArgs false
set_option maxRecDepth 100000
theorem byt_rep' (n : Nat) (x : Int) (h : 0 ≤ x ∧ x < 256) : Byt (List.replicate n x) := fun y hy => by
  have := List.eq_of_mem_replicate hy
  omega
theorem pack_len (s : Sup) : s.pack.length ≤ 64 ∧ Byt s.pack := by
  unfold Sup.pack
  split
  · exact ⟨by rw [packed_length]; omega, packed_byt s⟩
  · exact ⟨by simp, fun x hx => by simp at hx⟩
abbrev RupB (w : World) (g : Nat) (s : Sup) : Prop := w.heap[g]? = some (.cells #[.int .i64 s.ep, .int .i64 s.gn, .int .i64 s.nx, .int .i64 s.st, .int .i64 s.sz] 71 (0, 0))
theorem rup_var (w : World) (s : Sup) : ∃ W, w.alloc (.cells #[.int .i64 s.ep, .int .i64 s.gn, .int .i64 s.nx, .int .i64 s.st, .int .i64 s.sz] 71) = W ∧ RupB W w.heap.size s ∧ Below w.heap.size w W ∧ W.heap.size = w.heap.size + 1 :=
  ⟨_, rfl, heap_alloc_new w _, below_alloc (Below.refl _ _) _, by simp⟩
set_option maxHeartbeats 16000000 in
theorem superTells_calls (A : Option Addr) (nl c : Nat) (l : List Int) (how cut flip : Int) (B : Option Addr) (nb cb : Nat) (raw : List Int) (w : World) (hr : RI w A nl l) (hrb : RB w B nb raw) (hcb : nb ≤ cb) (hyb : Byt raw) :
    Calls Try.prog 7 #[.slice A nl c, .int .i64 how, .int .i64 cut, .int .i64 flip, .slice B nb cb] w fun e w' => e = .returned (.bool true) ∧ Below w.heap.size w w' := by
  have HRB := Aside0.mk hrb
  have HYB := Aside0.mk hyb
  go_enter Try.func7, Try.ntmps7
  go_wp2_with fail
  ((with_reducible refine (supof_calls A nl c l how w hr).mono ?_); rintro e w1 ⟨rfl, hb1⟩)
  have HB1 := Aside0.mk hb1
  clear hr hb1 hrb hyb
  generalize supOfL l how = s at *
  have HPL := Aside0.mk (pack_len s)
  unfold Sup.val
  go_upto_region 2 with (fail)
  obtain ⟨W, hW, hs, hb, hz⟩ := sup_var w1 s
  rw [hW]
  clear hW
  have HS := Aside0.mk hs
  have HBW := Aside0.mk (below_step HB1.out hb)
  have x0 := blk_cell hs 0
  have x1 := blk_cell hs 1
  have x2 := blk_cell hs 2
  have x3 := blk_cell hs 3
  have x4 := blk_cell hs 4
  clear hs hb hz HB1
  go_wp2_with fail
  ((refine (pack_calls s _).mono ?_); rintro e w2 ⟨v2, rfl, ho2, hb2⟩)
  obtain ⟨A2, c2, rfl, hc2, hC2⟩ := OB_reads ho2
  have HC2 := Aside0.mk hC2
  have hs2 := HS.out.after hb2
  have HB2 := Aside0.mk (below_step HBW.out hb2)
  clear x0 x1 x2 x3 x4
  have x0 := blk_cell hs2 0
  have x1 := blk_cell hs2 1
  have x2 := blk_cell hs2 2
  have x3 := blk_cell hs2 3
  have x4 := blk_cell hs2 4
  clear ho2 hC2 hb2 HS HBW hs2
  go_wp2_with fail
  ((refine (rpack_calls s _).mono ?_); rintro e w3 ⟨v3, rfl, ho3, hb3⟩)
  obtain ⟨A3, c3, rfl, hc3, hC3⟩ := OB_reads ho3
  have HC3 := Aside0.mk hC3
  have HC23 := Aside0.mk (Kd.C_below HC2.out hb3)
  have HB3 := Aside0.mk (below_step HB2.out hb3)
  clear x0 x1 x2 x3 x4 ho3 hC3 hb3 HC2 HB2
  obtain ⟨hpl, hpy⟩ := HPL.out
  have HPY := Aside0.mk hpy
  clear HPL hpy
  generalize s.pack = pk at *
  generalize s.may = mb at *
  go_wp2_with fail
  ((with_reducible refine (sameb_calls A2 pk.length c2 pk A3 pk.length c3 pk _ HC23.out HC3.out).mono ?_); rintro e w4 ⟨rfl, ⟨m4, rfl⟩⟩)
  have HC4 := Aside0.mk (Kd.C_drewN HC3.out m4)
  have HB4 := Aside0.mk (pw_below_drewN HB3.out m4)
  clear HC23 HC3 HB3
  generalize w3.drewN m4 = w4 at *
  go_upto_if 46 with (fail)
  go_cut [14] (fun s14 wx => ∃ (A5 : Option Addr) (n5 c5 : Nat) (lc : List Int), s14 = .slice A5 n5 c5 ∧ Aside0 (n5 ≤ 64) ∧ Aside0 (RB wx A5 n5 lc) ∧ Aside0 (Byt lc) ∧ Aside0 (Below w4.heap.size w4 wx))
  case first =>
    by_cases hh : how.tmod 5 = 4
    · have t1 : (how.tmod 5 == 4) = true := by simp [hh]
      clear hh
      go_wp2_with fail
      ((with_reducible refine (cutb_calls B nb cb raw 64 64 rfl _ (Kd.C_below HRB.out HB4.out) hcb (by omega)).mono ?_); rintro e w5 ⟨v5, rfl, ho5, hb5⟩)
      have HO5 := Aside0.mk ho5
      have HB5 := Aside0.mk hb5
      have hlt : (raw.take 64).length ≤ 64 := by rw [List.length_take]; omega
      have HYT := Aside0.mk (HYB.out.take 64)
      generalize raw.take 64 = rt at *
      clear ho5 hb5
      go_wp2_with (at_builtin; go_must (refine Kd.R_append_zeros (Kd.int .u8) (w0 := w4) w4.heap.size rfl (.tmp 48) _ 24 3 5 (.int .u8 0) 1 rfl Try.underlying24 Try.underlying3 infoB rfl (by decide) (by decide) v5 rt 0 64 (fun _ => True) rfl rfl rfl (fun _ _ => trivial) HO5.out (by omega) HB5.out HB5.out.size (by omega) ?_); intro v6 w6 ho6 hb6 hg6 hn6; obtain ⟨A6, c6, e6, hc6, hC6⟩ := OB_reads ho6; subst e6; obtain ⟨hcu, hCu⟩ := cut_to (P := Try.prog) 24 5 Try.underlying24 infoB hC6 hc6 64 64 rfl (by rw [List.length_append, List.length_replicate]; omega); rw [show (rt ++ List.replicate (Int.toNat 64) (0 : Int)).length = rt.length + 64 from by simp] at hcu ⊢)
      go_meet
      have hl64 : ((rt ++ List.replicate (Int.toNat 64) (0 : Int)).take 64).length = 64 := by rw [List.length_take, List.length_append, List.length_replicate]; omega
      rw [hl64] at hCu
      refine ⟨_, _, _, _, rfl, ⟨Nat.le_refl _⟩, ⟨hCu⟩, ⟨?_⟩, ⟨hb6⟩⟩
      exact (HYT.out.append (byt_rep' _ 0 (by omega))).take 64
    · have t1 : (how.tmod 5 == 4) = false := by simp [hh]
      clear hh
      go_wp2_with fail
      go_meet
      exact ⟨A3, _, c3, pk, rfl, ⟨hpl⟩, HC4, HPY, ⟨Below.refl _ _⟩⟩
  case rest =>
    obtain ⟨A5, n5, c5, lc, rfl, ⟨hn5⟩, HC5, HY5, HB5⟩ := hcut
    have HBW := Aside0.mk (below_step HB4.out HB5.out)
    have HN5 := Aside0.mk (Kd.C_len HC5.out)
    clear HC4 HPY HB5 HB4 HRB HYB
    go_wp2_with fail
    ((with_reducible refine (copyb_calls A5 n5 c5 lc _ HC5.out (by omega)).mono ?_); rintro e w7 ⟨v7, rfl, ho7, hb7⟩)
    have hl5 := HN5.out
    have HO7 := Aside0.mk ho7
    have HB7 := Aside0.mk hb7
    obtain ⟨A7, c7, rfl, hc7, hC7⟩ := OB_reads ho7
    rw [hl5] at HO7 hc7 ⊢
    have hwj := wi_bd flip (16 * (n5 : Int) + 1) (by omega)
    clear ho7 hb7 hC7 HC5 hl5
    go_wp2_with fail
    ((with_reducible refine (within_calls _ _ _ (by omega)).mono ?_); rintro e w9 ⟨rfl, rfl⟩)
    obtain ⟨k2, hk⟩ : ∃ k : Nat, wi flip (16 * (n5 : Int) + 1) = (k : Int) := ⟨(wi flip (16 * (n5 : Int) + 1)).toNat, by omega⟩
    rw [hk] at hwj ⊢
    clear hk
    go_upto_if 63 with (fail)
    go_cut [] (fun wx => ∃ (lc' : List Int), Aside0 (lc'.length = n5) ∧ Aside0 (Byt lc') ∧ Aside0 (OB wx wc.heap.size (.slice A7 n5 c7) lc') ∧ Aside0 (Below wc.heap.size wc wx))
    case first =>
      by_cases hk8 : k2 < 8 * n5
      · obtain ⟨g, cap, e, hg, hgl, _⟩ := Kd.R_form HO7.out (by rw [HN5.out]; omega)
        injection e with e1 e2 e3
        subst e1
        obtain ⟨j, hj⟩ : ∃ j : Nat, j = k2 / 8 := ⟨_, rfl⟩
        have hjl : j < n5 := by omega
        obtain ⟨hcell, hfz⟩ := OB_at HO7.out j hjl
        have HPUT := Aside0.mk (fun z => OB_put HO7.out j z)
        have hu := HY5.out.at_ j (by rw [HN5.out]; exact hjl)
        have hq : (k2 : Int) / 8 = (j : Int) := by omega
        have i0 : (0 : Int) ≤ (j : Int) := by omega
        have i1 : (j : Int) < (n5 : Int) := by omega
        clear e2 e3 hj
        generalize rd lc j = u at *
        go_wp2_with fail
        go_meet
        refine ⟨lc.set j (bits .xor .u8 u (2 ^ (k2 % 8) % 256)), ⟨by rw [List.length_set]; exact HN5.out⟩, ⟨fun y hy => ?_⟩, ⟨HPUT.out _⟩, ⟨below_set HB7.out hg⟩⟩
        rcases List.mem_or_eq_of_mem_set hy with hy | rfl
        · exact HY5.out y hy
        · exact (xor8 u (2 ^ (k2 % 8) % 256) hu (by omega)).1
      · go_wp2_with fail
        go_meet
        exact ⟨lc, HN5, HY5, HO7, HB7⟩
    case rest =>
      obtain ⟨ld, HLD, HYD, HOD, HWD⟩ := hcut
      have HBD := Aside0.mk (below_step HBW.out HWD.out)
      obtain ⟨A8, c8, e8, hc8, hC8⟩ := OB_reads HOD.out
      injection e8 with e1 e2 e3
      subst e1 e3
      rw [HLD.out] at hc8 hC8
      have HC8 := Aside0.mk hC8
      clear e2 HO7 HB7 HY5 HN5 HBW HWD HOD hC8 hwj
      have hwj := wi_bd cut (6 * (n5 : Int) + 1) (by omega)
      go_wp2_with fail
      ((with_reducible refine (within_calls _ _ _ (by omega)).mono ?_); rintro e w9 ⟨rfl, rfl⟩)
      obtain ⟨k3, hk⟩ : ∃ k : Nat, wi cut (6 * (n5 : Int) + 1) = (k : Int) := ⟨(wi cut (6 * (n5 : Int) + 1)).toNat, by omega⟩
      rw [hk] at hwj ⊢
      clear hk
      go_upto_if 84 with (fail)
      go_cut [14] (fun s14 wx => ∃ (n9 : Nat) (le : List Int), s14 = .slice A7 n9 c7 ∧ Aside0 (n9 ≤ c7) ∧ Aside0 (RB wx A7 n9 le) ∧ Aside0 (Byt le) ∧ Aside0 (Below w.heap.size w wx))
      case first =>
        by_cases hkn : k3 < n5
        · obtain ⟨hcu, hCu⟩ := cut_to (P := Try.prog) 24 5 Try.underlying24 infoB (k := Kd.int .u8) (A := A7) (xs := ld) (c := c7) (by rw [HLD.out]; exact HC8.out) (by rw [HLD.out]; exact hc8) k3 k3 rfl (by rw [HLD.out]; omega)
          rw [HLD.out] at hcu
          have hl3 : (ld.take k3).length = k3 := by rw [List.length_take, HLD.out]; omega
          rw [hl3] at hCu
          have HCU := Aside0.mk hCu
          clear hCu hl3
          go_wp2_with fail
          go_meet
          exact ⟨k3, ld.take k3, rfl, ⟨by omega⟩, HCU, ⟨HYD.out.take k3⟩, HBD⟩
        · go_wp2_with fail
          go_meet
          exact ⟨n5, ld, rfl, ⟨hc8⟩, HC8, HYD, HBD⟩
      case rest =>
        obtain ⟨n9, le, rfl, ⟨hn9⟩, HC9, HY9, HB9⟩ := hcut
        clear HC8 HYD HLD HBD
        go_wp2_with fail
        ((refine (unpack_calls A7 n9 c7 le _ HC9.out hn9 HY9.out).mono ?_); rintro e w10 ⟨rfl, hb10⟩)
        have HC10 := Aside0.mk (Kd.C_below HC9.out hb10)
        have HB10 := Aside0.mk (below_step HB9.out hb10)
        clear hb10 HC9 HB9
        generalize hu : unSup le = t at *
        have HU := Aside0.mk hu
        generalize hi : isSup le = q at *
        have HI := Aside0.mk hi
        clear hu hi
        unfold Sup.val
        go_upto_region 16 with (fail)
        obtain ⟨W11, hW, ht, hb, hz⟩ := sup_var w10 t
        rw [hW]
        clear hW
        have HT := Aside0.mk ht
        have HC11 := Aside0.mk (Kd.C_below HC10.out hb)
        have HB11 := Aside0.mk (below_step HB10.out hb)
        clear ht hb hz HC10 HB10
        go_wp2_with fail
        ((refine (runpack_calls A7 n9 c7 le _ HC11.out hn9 HY9.out).mono ?_); rw [HU.out, HI.out]; rintro e w12 ⟨rfl, hb12⟩)
        have HT12 := Aside0.mk (HT.out.after hb12)
        have HB12 := Aside0.mk (below_step HB11.out hb12)
        have n1 : w10.heap.size < w12.heap.size := blk_lt HT12.out
        clear hb12 HT HC11 HB11 HU HI
        unfold Sup.val
        go_upto_region 17 with (fail)
        obtain ⟨W13, hW, ht, hb, hz⟩ := rup_var w12 t
        rw [hW]
        clear hW
        have ht7 := HT12.out.after hb
        have HB13 := Aside0.mk (below_step HB12.out hb)
        have a0 := blk_cell ht7 0
        have a1 := blk_cell ht7 1
        have a2 := blk_cell ht7 2
        have a3 := blk_cell ht7 3
        have a4 := blk_cell ht7 4
        have b0 := blk_cell ht 0
        have b1 := blk_cell ht 1
        have b2 := blk_cell ht 2
        have b3 := blk_cell ht 3
        have b4 := blk_cell ht 4
        clear ht hb hz ht7 HT12 HB12
        cases q
        all_goals
          go_wp2_with fail
          ((with_reducible refine (wakes18_calls _).mono ?_); rintro e w15 ⟨rfl, hb15⟩)
          go_wp2
          go_ret
          exact ⟨rfl, below_step HB13.out hb15⟩
theorem superTells_law (A : Option Addr) (c : Nat) (l : List Int) (how cut flip : Int) (B : Option Addr) (cb : Nat) (raw : List Int) (w : World) (hr : Kd.C (Kd.int .i64) w A l.length l) (hc : l.length ≤ c) (hy : l.length * 8 ≤ 140737488351232) (hw : ∀ x ∈ l, (Lit.int .i64 x).wf = true) (h1 : (Lit.int .i64 how).wf = true) (h2 : (Lit.int .i64 cut).wf = true) (h3 : (Lit.int .i64 flip).wf = true)
    (hrb : Kd.C (Kd.int .u8) w B raw.length raw) (hcb : raw.length ≤ cb) (hyb : raw.length * 1 ≤ 140737488351232) (hwb : ∀ x ∈ raw, (Lit.int .u8 x).wf = true) :
    Calls Try.prog 7 #[.slice A l.length c, .int .i64 how, .int .i64 cut, .int .i64 flip, .slice B raw.length cb] w fun e w' => e = .returned (.bool true) ∧ Below w.heap.size w w' :=
  superTells_calls A l.length c l how cut flip B raw.length cb raw w hr hrb hcb (byt_of_wf hwb)
end Go.Proofs.Ytodhgohbcjnjfaa
