/- DiskLoses returns true: what was written ahead of a barrier stays, whatever is lost. -/
import Derived.Test.YtcgmnmohpkolmaaDiskLosesPure
import Derived.Carry
import Derived.WalkArith
import Derived.Test.YtcgmnmohpkolmaaSamei
namespace Go.Proofs.Ytcgmnmohpkolmaa
open Go.RowKit Go.Proofs.YtcgmnmohpkolmaaW.PrintWords Go.Proofs.YtcgmnmohpkolmaaW.PrintLast Go.Proofs.YtcgmnmohpkolmaaW.PrintMore
open Go.Maps (Keyed int_keyed keyOf_int_mk)
set_option linter.unusedVariables false
set_option linter.unusedSimpArgs false
set_option maxRecDepth 100000
theorem own_keep {H : Type} {P : Program} {k : TypeId} {R : Value → Option (DataW H × List MemPlace)} {w w' : World} {b n : Nat} {D : DataW H} (h : w.ownsMap P k R b n D) (e : w'.heap[b]? = w.heap[b]?) : w'.ownsMap P k R b n D := by
  obtain ⟨es, clock, hb, F, hs, hD⟩ := h
  exact ⟨es, clock, e.trans hb, F, hs, hD⟩
theorem keyedI : Keyed Try.prog 3 := int_keyed Try.underlying3
theorem lookup_own_bool (w : World) {ops : Array Oper} {rest : List Oper} {o : Oper} {a : Act} {Q : Exit → Act → World → Prop}
    (hg : o.guard = none) (m x : Operand) (hop : o.op = Op.lookup 51 m x false) (b n : Nat) (D : DataW Nat)
    (hm : a.eval m = .map (some b)) (hown : w.ownsMap Try.prog 3 (plainElem Try.prog 4) b n D) (i : Int) (hx : a.eval x = .int .i64 i) (hw : (Lit.int .i64 i).wf = true) (p : Bool)
    (hat : D.atKey (.int .i64 i) (.lit (.bool false)) = .lit (.bool p)) (hK : wpList Try.prog ops Q rest (a.put o.dst (.bool p)) w) : wpList Try.prog ops Q (o :: rest) a w := by
  refine wpList_plain hg fun K' hK' => ?_
  obtain ⟨v, ps, hrun, hv⟩ := hown.lookup keyedI Try.underlying51 (zeroB w) (plainElem_bool Try.underlying4 false) (keyOf_int_mk Try.underlying3 hw)
  rw [hat] at hv
  have hvp : v = .bool p := by
    unfold plainElem at hv
    rw [Try.underlying4] at hv
    cases v <;> simp at hv
    rw [hv.1]
  subst hvp
  unfold Oper.wp
  simp [execOp, hop, hm, hx, hrun, Result.andThen]
  exact hK' _ _ hK
set_option maxHeartbeats 8000000 in
theorem diskLoses_calls (n keep torn : Int) (A : Option Addr) (c : Nat) (l : List Int) (w : World) (hi1 : (Lit.int .i64 n).wf = true) (hi2 : (Lit.int .i64 keep).wf = true) (hi3 : (Lit.int .i64 torn).wf = true) (hr : RI w A l.length l) (hc : l.length ≤ c) (hy : l.length * 8 ≤ 140737488351232) (hwf : ∀ x ∈ l, (Lit.int .i64 x).wf = true) :
    Calls Try.prog 10 #[.int .i64 n, .int .i64 keep, .int .i64 torn, .slice A l.length c] w fun e w' => e = .returned (.bool true) ∧ Below w.heap.size w w' := by
  have HR := Aside0.mk hr
  have HY := Aside0.mk hy
  have hmm := @run_makeMap Try.prog
  clear hi1 hi2 hi3 hr hc hwf hy
  go_enter Try.func10, Try.ntmps10
  have hwi := wi_bd n 10 (by omega)
  go_wp2_with fail
  refine (within_calls _ _ _ (by omega)).mono ?_
  rintro e w3 ⟨rfl, rfl⟩
  obtain ⟨m, hm⟩ : ∃ m : Nat, wi n 10 = (m : Int) := ⟨(wi n 10).toNat, by omega⟩
  rw [hm] at hwi ⊢
  clear hm
  go_upto_region 2 with (fail)
  obtain ⟨N, hN⟩ : ∃ N : Nat, 2 + (m : Int) = (N : Int) := ⟨2 + m, by omega⟩
  rw [hN]
  have hN2 : 2 ≤ N := by omega
  have hN11 : N ≤ 11 := by omega
  clear hN hwi
  go_wp2_with fail
  refine (new_calls N (N : Int) rfl _ (by omega) (by omega)).mono ?_
  rintro e w1 ⟨a, rfl, h1, ha, hb1⟩
  have H1 := Aside0.mk h1
  have HB1 := Aside0.mk hb1
  have HA := Aside0.mk ha
  clear h1 hb1 ha
  have HP0 := Aside0.mk (show P1 0 (newDS N) from ⟨⟨rfl, rfl, rfl⟩, fun j hj => absurd hj (by omega), fun j hj => absurd hj (by omega)⟩)
  go_wp2
  go_loopw [10] (fun i wr => ∃ (k : Nat) (s : DS), k ≤ N ∧ i = .int .i64 k ∧ Aside0 (P1 k s) ∧ Aside0 (Dsk wr a N s) ∧ Aside0 (Below w.heap.size w wr)) (fun i _ => N - (intOf i).toNat)
  case atStart => exact ⟨0, newDS N, by omega, rfl, HP0, H1, HB1⟩
  case round =>
    obtain ⟨k, s, hk, rfl, HP, HD, HB⟩ := hrel
    by_cases hlt : k < N
    · have hkN : (k : Int) < (N : Int) := by omega
      have HS := Aside0.mk (HP.out.step HD.out.ok hlt)
      have HWR := Aside0.mk (write_live HP.out.live N k hlt (oldS k) (by simp [oldS]))
      go_wp2_with fail
      refine (sector_calls _ _ (by omega)).mono ?_
      rintro e w4 ⟨v4, rfl, ho4, hb4⟩
      obtain ⟨A4, c4, rfl, hc4, hC4⟩ := OB_reads ho4
      have HA4 := Aside0.mk (OB_away ho4 rfl (by simp) HD.out.lt)
      have HC4 := Aside0.mk hC4
      have H4 := Aside0.mk (HD.out.after hb4)
      have HB4 := Aside0.mk (below_step HB.out hb4)
      clear ho4 hb4 hC4
      rw [List.length_replicate] at hc4 HC4 ⊢
      go_wp2_with fail
      refine (write_calls a N _ (k : Int) _ _ _ (oldS k) _ H4.out HC4.out (byt_rep _ _ (by omega)) HA4.out).mono ?_
      rw [HWR.out]
      rintro e w5 ⟨rfl, h5, hb5⟩
      have H5 := Aside0.mk h5
      have HB5 := Aside0.mk (But.step HB4.out hb5 HA.out)
      clear h5 hb5 HC4 HA4
      go_wp2
      go_roundw
      case rel => exact ⟨k + 1, _, by omega, by go_num, HS, H5, HB5⟩
      case measure => simp [intOf]; omega
    · obtain rfl : k = N := by omega
      clear H1 HB1 HP0
      have HPL := Aside0.mk (HP.out.pending HD.out.ok)
      have HBR := Aside0.mk (barrier_live HP.out.live)
      have HST := Aside0.mk (HP.out.settle HD.out.ok)
      go_wp2_with fail
      refine (pending_calls a k _ _ HD.out).mono ?_
      rintro e w6 ⟨v6, rfl, ho6, hb6⟩
      obtain ⟨A6, c6, rfl, hc6, hC6⟩ := Kd.R_reads ho6
      rw [HPL.out]
      have H6 := Aside0.mk (HD.out.after hb6)
      have HB6 := Aside0.mk (below_step HB.out hb6)
      clear ho6 hb6 hC6 hc6 HD HB
      go_wp2_with fail
      refine (barrier_calls a k _ _ H6.out (by omega)).mono ?_
      rw [HBR.out]
      rintro e w7 ⟨rfl, h7, hb7⟩
      have H7 := Aside0.mk h7
      have HB7 := Aside0.mk (But.step HB6.out hb7 HA.out)
      clear h7 hb7 H6 HB6
      go_wp2_with fail
      refine (pending_calls a k _ _ H7.out).mono ?_
      rintro e w8 ⟨v8, rfl, ho8, hb8⟩
      obtain ⟨A8, c8, rfl, hc8, hC8⟩ := Kd.R_reads ho8
      have HS2 := Aside0.mk (HST.out.1)
      have hz := HST.out.2
      generalize s.settled = s2 at *
      rw [hz]
      have H8 := Aside0.mk (H7.out.after hb8)
      have HB8 := Aside0.mk (below_step HB7.out hb8)
      clear ho8 hb8 hC8 hc8 H7 HB7 HST hz HBR HPL HP
      go_upto_region 13 with (fail)
      obtain ⟨g, hg⟩ : ∃ g, g = w8.heap.size := ⟨_, rfl⟩
      have HW0 := Aside0.mk (World.ownsMap_made (H := Nat) w8 Try.prog 3 (plainElem Try.prog 4))
      have HAG := Aside0.mk (show ∀ i, a.has i → i < g from fun i hi => by rw [hg]; exact H8.out.lt i hi)
      have hgw : w.heap.size ≤ g := by rw [hg]; exact HB8.out.size
      rw [← hg] at HW0 ⊢
      have H9 := Aside0.mk (H8.out.after (below_alloc (Below.refl _ _) (.map #[] 0)))
      have HB9 := Aside0.mk (below_alloc HB8.out (.map #[] 0))
      clear H8 HB8
      generalize w8.alloc (Obj.map #[] 0) = w9 at *
      clear hg
      go_wp2
      go_loopw [12] (fun i wr => ∃ (j : Nat) (D : DataW Nat) (s : DS), j ≤ 8 ∧ j ≤ l.length ∧ i = .int .i64 j ∧ Aside0 (P3 k D s) ∧ Aside0 (Dsk wr a k s) ∧ Aside0 (Below w.heap.size w wr) ∧ Aside0 (wr.ownsMap Try.prog 3 (plainElem Try.prog 4) g j D)) (fun i _ => 8 - (intOf i).toNat)
      case atStart => exact ⟨0, .map [], s2, by omega, by omega, rfl, HS2, H9, HB9, HW0⟩
      case round =>
        obtain ⟨j, D, s3, hj8, hjl, rfl, HP, HD, HB, HW⟩ := hrel
        clear H9 HB9 HW0 HS2
        go_upto_region 14 with (fail)
        go_cut [65] (fun s65 wx => s65 = .bool (decide (j < l.length ∧ j < 8)) ∧ wr = wx)
        case first =>
          by_cases hA : j < l.length
          · have t1 : decide ((j : Int) < (l.length : Int)) = true := by simp [hA]
            by_cases hB : j < 8
            · have t2 : decide ((j : Int) < 8) = true := by simp; omega
              go_wp2
              go_meet
              exact ⟨by simp [hA, hB], rfl⟩
            · have t2 : decide ((j : Int) < 8) = false := by simp; omega
              go_wp2
              go_meet
              exact ⟨by simp [hA, hB], rfl⟩
          · have t1 : decide ((j : Int) < (l.length : Int)) = false := by simp; omega
            go_wp2
            go_meet
            exact ⟨by simp [hA], rfl⟩
        obtain ⟨rfl, rfl⟩ := hcut
        by_cases hlt2 : j < l.length ∧ j < 8
        · rw [decide_eq_true hlt2]
          obtain ⟨hl1, hl2⟩ := hlt2
          have j0 : (0 : Int) ≤ (j : Int) := by omega
          have j1 : (j : Int) < (l.length : Int) := by omega
          obtain ⟨ad, e, hx⟩ := Kd.at_int (Kd.C_below HR.out HB.out) (j : Int) (by omega) (by omega)
          cases e
          simp only [Int.toNat_natCast] at hx
          have hwx := wi_bd (rd l j) k (by omega)
          go_wp2_with fail
          refine (within_calls _ _ _ (by omega)).mono ?_
          rintro e w10 ⟨rfl, rfl⟩
          obtain ⟨x, hx'⟩ : ∃ x : Nat, wi (rd l j) k = (x : Int) := ⟨(wi (rd l j) k).toNat, by omega⟩
          rw [hx'] at hwx ⊢
          clear hx' hx
          have hxk : x < k := by omega
          have HS := Aside0.mk (HP.out.step HD.out.ok hxk)
          have HWR := Aside0.mk (write_live HP.out.live k x hxk (newS x) (by simp [newS]))
          go_wp2_with fail
          refine (sector_calls _ _ (by omega)).mono ?_
          rintro e w4 ⟨v4, rfl, ho4, hb4⟩
          obtain ⟨A4, c4, rfl, hc4, hC4⟩ := OB_reads ho4
          have HA4 := Aside0.mk (OB_away ho4 rfl (by simp) HD.out.lt)
          have HC4 := Aside0.mk hC4
          have H4 := Aside0.mk (HD.out.after hb4)
          have HB4 := Aside0.mk (below_step HB.out hb4)
          have HW4 := Aside0.mk (own_keep HW.out (hb4.block g HW.out.lt))
          clear ho4 hb4 hC4
          rw [List.length_replicate] at hc4 HC4 ⊢
          go_wp2_with fail
          refine (write_calls a k _ (x : Int) _ _ _ (newS x) _ H4.out HC4.out (byt_rep _ _ (by omega)) HA4.out).mono ?_
          rw [HWR.out]
          rintro e w5 ⟨rfl, h5, hb5⟩
          have H5 := Aside0.mk h5
          have HB5 := Aside0.mk (But.step HB4.out hb5 HA.out)
          have HW5 := Aside0.mk (own_keep HW4.out (hb5.block g HW4.out.lt (fun h => by have := HAG.out g h; omega)))
          have hxw : (Lit.int .i64 (x : Int)).wf = true := WalkArith.wf_i64 (by omega)
          clear h5 hb5 HC4 HA4 HW4 HB4 H4
          go_wp2_with (at_mapUpdate; go_must (refine wpList_mapUpdate_own _ rfl _ _ _ 51 rfl 3 4 keyedI Try.underlying51 _ g j D rfl HW5.out (by simp [maxLen]; omega) _ _ (.int .i64 x) rfl rfl (keyOf_int_mk Try.underlying3 hxw) (.lit (.bool true)) [] (plainElem_bool Try.underlying4 true) ?_); intro w6 hown6 hgr6)
          have H6 := Aside0.mk (H5.out.keep (fun i hi => hgr6.block i (H5.out.lt i hi) (fun e => by injection e with e; have := HAG.out i hi; omega)))
          have HB6 := Aside0.mk (show Below w.heap.size w w6 from HB5.out.trans ⟨hgr6.os, hgr6.tape, hgr6.output, hgr6.size, fun i hi => hgr6.block i (Nat.lt_of_lt_of_le hi HB5.out.size) (fun e => by injection e with e; omega)⟩)
          have HW6 := Aside0.mk hown6
          clear hown6 hgr6
          go_wp2
          go_roundw
          case rel => exact ⟨j + 1, _, _, by omega, by omega, by go_num, HS, H6, HB6, HW6⟩
          case measure => simp [intOf]; omega
        · rw [decide_eq_false hlt2]
          have hpl : s3.pending.length = Maps.size D := by
            unfold DS.pending
            rw [trues_count, HP.out.size]
          have hps : s3.pending.length ≤ k := by
            unfold DS.pending
            exact Nat.le_trans (trues_len _ _) (by rw [HD.out.ok.pend]; exact Nat.le_refl _)
          go_wp2_with fail
          refine (pending_calls a k _ _ HD.out).mono ?_
          rintro e w6 ⟨v6, rfl, ho6, hb6⟩
          obtain ⟨A6, c6, rfl, hc6, hC6⟩ := Kd.R_reads ho6
          have H6 := Aside0.mk (HD.out.after hb6)
          have HB6 := Aside0.mk (below_step HB.out hb6)
          have HW6 := Aside0.mk (own_keep HW.out (hb6.block g HW.out.lt))
          rw [hpl] at hps ⊢
          clear ho6 hb6 hC6 hc6 HD HB HW hpl
          go_wp2_with (at_len; (refine wpList_len_own _ rfl (.tmp 86) 51 rfl 3 4 Try.underlying51 _ g j D rfl HW6.out ?_))
          have hf := HP.out.losing H6.out.ok keep torn
          have HKEY := Aside0.mk HP.out.key
          refine (crash_calls a k _ keep torn _ H6.out (by omega)).mono ?_
          rintro e w7 ⟨rfl, w7', hb7, hb7', h7⟩
          have H7 := Aside0.mk h7
          have HB7 := Aside0.mk (But.step (below_step HB6.out hb7) hb7' HA.out)
          have HW7 := Aside0.mk (own_keep HW6.out ((hb7'.block g (Nat.lt_of_lt_of_le HW6.out.lt hb7.size) (fun h => by have := HAG.out g h; omega)).trans (hb7.block g HW6.out.lt)))
          have HPD := Aside0.mk (crash_pending s3 keep torn)
          have HDD := Aside0.mk (show (s3.crash keep torn).dead = false from rfl)
          obtain ⟨q, hf⟩ := hf
          have HF := Aside0.mk hf
          generalize s3.crash keep torn = S at *
          clear h7 hb7 hb7' hf HP H6 HB6 HW6 hlt2 hps
          go_wp2
          go_loopw [14, 15] (fun mx i wr => ∃ i2 mv : Nat, i2 ≤ k ∧ mv ≤ 1 ∧ i = .int .i64 i2 ∧ mx = .int .i64 mv ∧ Aside0 (mv = if q < i2 then 1 else 0) ∧ Aside0 (Dsk wr a k S) ∧ Aside0 (Below w.heap.size w wr) ∧ Aside0 (wr.ownsMap Try.prog 3 (plainElem Try.prog 4) g j D)) (fun _ i _ => k - (intOf i).toNat)
          case atStart => exact ⟨0, 0, by omega, by omega, rfl, rfl, ⟨by simp⟩, H7, HB7, HW7⟩
          case round =>
            obtain ⟨i2, mv, hi2, hmv, rfl, rfl, HMV, HD, HB, HW⟩ := hrel
            clear H7 HB7 HW7
            by_cases hlt3 : i2 < k
            · have hki : (i2 : Int) < (k : Int) := by omega
              have hkey := HKEY.out i2 hlt3
              have hfi := HF.out i2 hlt3
              have hs := HD.out.ok.now.at_ i2 hlt3
              have hrd : S.read k (i2 : Int) = S.now.getD i2 [] := by
                unfold DS.read
                rw [if_pos (by unfold isB; exact decide_eq_true (by omega)), Int.toNat_natCast]
              have HRD := Aside0.mk hrd
              generalize s3.pend.getD i2 false = p at *
              obtain ⟨r, hr⟩ : ∃ r, r = S.now.getD i2 [] := ⟨_, rfl⟩
              rw [← hr] at hfi hs HRD
              have hr64 := hs.1
              have hcase : (decide (r = oldS i2) = true ∧ decide (r = newS i2) = false ∧ i2 ≠ q) ∨ (decide (r = oldS i2) = false ∧ decide (r = newS i2) = true ∧ p = true ∧ i2 ≠ q) ∨ (decide (r = oldS i2) = false ∧ decide (r = newS i2) = false ∧ p = true ∧ i2 = q ∧ ∃ t : Nat, 0 < t ∧ t < 64 ∧ r = List.replicate t (100 + (i2 : Int)) ++ List.replicate (64 - t) (10 + (i2 : Int))) := by
                by_cases hq : i2 = q
                · obtain ⟨h1, t, h2, h3, h4⟩ := hfi.2 hq
                  exact .inr (.inr ⟨decide_eq_false (by rw [h4]; exact mix_old i2 t h2), decide_eq_false (by rw [h4]; exact mix_new i2 t h3), h1, hq, t, h2, h3, h4⟩)
                · rcases hfi.1 hq with h1 | ⟨h1, h2⟩
                  · exact .inl ⟨decide_eq_true h1, decide_eq_false (by rw [h1]; exact oldS_ne i2), hq⟩
                  · exact .inr (.inl ⟨decide_eq_false (by rw [h2]; exact (oldS_ne i2).symm), decide_eq_true h2, h1, hq⟩)
              have HC := Aside0.mk hcase
              have hw2 : (Lit.int .i64 (i2 : Int)).wf = true := WalkArith.wf_i64 (by omega)
              clear hfi hs hrd hr hcase
              go_wp2_with fail
              refine (read_calls a k S (i2 : Int) _ HD.out).mono ?_
              rw [HRD.out]
              rintro e w8 ⟨v8, rfl, ho8, hb8⟩
              obtain ⟨A8, c8, rfl, hc8, hC8⟩ := OB_reads ho8
              rw [hr64] at hc8 hC8 ⊢
              have HC8 := Aside0.mk hC8
              have HD8 := Aside0.mk (HD.out.after hb8)
              have HB8 := Aside0.mk (below_step HB.out hb8)
              have HW8 := Aside0.mk (own_keep HW.out (hb8.block g HW.out.lt))
              clear ho8 hb8 hC8
              go_wp2_with fail
              refine (sector_calls _ _ (by omega)).mono ?_
              rintro e w9 ⟨v9, rfl, ho9, hb9⟩
              obtain ⟨A9, c9, rfl, hc9, hC9⟩ := OB_reads ho9
              rw [List.length_replicate] at hC9 ⊢
              have HC9 := Aside0.mk hC9
              have HC89 := Aside0.mk (Kd.C_below HC8.out hb9)
              have HD9 := Aside0.mk (HD8.out.after hb9)
              have HB9 := Aside0.mk (below_step HB8.out hb9)
              have HW9 := Aside0.mk (own_keep HW8.out (hb9.block g HW8.out.lt))
              clear ho9 hb9 hC9 hc9 HC8 HD8 HB8 HW8
              go_wp2_with fail
              refine (sameb_calls _ _ _ r _ _ _ (oldS i2) _ HC89.out HC9.out).mono ?_
              rintro e w10 ⟨rfl, ⟨m10, rfl⟩⟩
              have HC10 := Aside0.mk (Kd.C_drewN HC89.out m10)
              have HD10 := Aside0.mk (HD9.out.drewN m10)
              have HB10 := Aside0.mk (pw_below_drewN HB9.out m10)
              have HW10 := Aside0.mk (own_keep (w' := w9.drewN m10) HW9.out rfl)
              clear HC89 HD9 HB9 HW9 HC9
              go_wp2_with fail
              refine (sector_calls _ _ (by omega)).mono ?_
              rintro e w9' ⟨v9, rfl, ho9, hb9⟩
              obtain ⟨A9', c9', rfl, hc9, hC9⟩ := OB_reads ho9
              rw [List.length_replicate] at hC9 ⊢
              have HC9 := Aside0.mk hC9
              have HC89 := Aside0.mk (Kd.C_below HC10.out hb9)
              have HD9 := Aside0.mk (HD10.out.after hb9)
              have HB9 := Aside0.mk (below_step HB10.out hb9)
              have HW9 := Aside0.mk (own_keep HW10.out (hb9.block g HW10.out.lt))
              clear ho9 hb9 hC9 hc9 HC10 HD10 HB10 HW10
              go_wp2_with fail
              refine (sameb_calls _ _ _ r _ _ _ (newS i2) _ HC89.out HC9.out).mono ?_
              rintro e w11 ⟨rfl, ⟨m11, rfl⟩⟩
              have HC11 := Aside0.mk (Kd.C_drewN HC89.out m11)
              have HD11 := Aside0.mk (HD9.out.drewN m11)
              have HB11 := Aside0.mk (pw_below_drewN HB9.out m11)
              have HW11 := Aside0.mk (own_keep (w' := w9'.drewN m11) HW9.out rfl)
              clear HC89 HD9 HB9 HW9 HC9
              go_upto_region 31 with (fail)
              generalize w9'.drewN m11 = wx at *
              rcases HC.out with ⟨ho, hn, hq⟩ | ⟨ho, hn, rfl, hq⟩ | ⟨ho, hn, rfl, rfl, t, ht0, ht1, htr⟩
              · rw [ho, hn]
                clear HC
                cases p
                all_goals
                  go_wp2_with (at_lookup; (refine lookup_own_bool _ rfl _ _ rfl g j D rfl HW11.out (i2 : Int) rfl hw2 _ hkey ?_))
                  go_roundw
                  case rel => exact ⟨i2 + 1, mv, by omega, hmv, by go_num, rfl, ⟨by rw [HMV.out]; by_cases h : q < i2 <;> simp [h] <;> omega⟩, HD11, HB11, HW11⟩
                  case measure => simp [intOf]; omega
              · rw [ho, hn]
                clear HC
                go_wp2_with (at_lookup; (refine lookup_own_bool _ rfl _ _ rfl g j D rfl HW11.out (i2 : Int) rfl hw2 _ hkey ?_))
                go_roundw
                case rel => exact ⟨i2 + 1, mv, by omega, hmv, by go_num, rfl, ⟨by rw [HMV.out]; by_cases h : q < i2 <;> simp [h] <;> omega⟩, HD11, HB11, HW11⟩
                case measure => simp [intOf]; omega
              · obtain rfl : mv = 0 := by rw [HMV.out, if_neg (by omega)]
                rw [ho, hn]
                clear HC ho hn
                go_upto_region 35 with (at_lookup; (refine lookup_own_bool _ rfl _ _ rfl g j D rfl HW11.out (i2 : Int) rfl hw2 _ hkey ?_))
                have HTR := Aside0.mk htr
                clear htr
                go_wp2
                go_loopw [19] (fun v wr => ∃ m2 : Nat, m2 ≤ t ∧ v = .int .i64 m2 ∧ Aside0 (RB wr A8 64 r) ∧ Aside0 (Dsk wr a k S) ∧ Aside0 (Below w.heap.size w wr) ∧ Aside0 (wr.ownsMap Try.prog 3 (plainElem Try.prog 4) g j D)) (fun v _ => t - (intOf v).toNat)
                case atStart => exact ⟨0, by omega, rfl, HC11, HD11, HB11, HW11⟩
                case round =>
                  obtain ⟨m2, hm2, rfl, HCr, HDr, HBr, HWr⟩ := hrel
                  clear HC11 HD11 HB11 HW11
                  have m0 : (0 : Int) ≤ (m2 : Int) := by omega
                  have m1 : (m2 : Int) < 64 := by omega
                  obtain ⟨ad, e, hx⟩ := Kd.at_int HCr.out (m2 : Int) (by omega) (by omega)
                  cases e
                  simp only [Int.toNat_natCast] at hx
                  by_cases hlt4 : m2 < t
                  · rw [HTR.out, mix_rd_lt _ _ _ _ hlt4] at hx
                    go_wp2
                    go_roundw
                    case rel => exact ⟨m2 + 1, by omega, by go_num, HCr, HDr, HBr, HWr⟩
                    case measure => simp [intOf]; omega
                  · obtain rfl : m2 = t := by omega
                    rw [HTR.out, mix_rd_at _ _ _ ht1] at hx
                    have h64 : RB wr (some ad) r.length r := by rw [hr64]; exact HCr.out
                    obtain ⟨A7, c7, hcu, hl7, hC7⟩ := cut_from (P := Try.prog) 22 5 Try.underlying22 infoB (c := c8) h64 (by omega) m2 (m2 : Int) rfl (by omega)
                    rw [List.length_drop, hr64] at hC7
                    rw [hr64] at hcu hl7
                    have HC7 := Aside0.mk hC7
                    have HDR := Aside0.mk (show r.drop m2 = (List.replicate 64 (10 + (i2 : Int))).drop m2 from by rw [HTR.out]; exact mix_drop _ _ _)
                    go_upto_region 38 with (fail)
                    clear hC7 h64 hx
                    have j4 : IntKind.i64.wrap (10 + (i2 : Int)) = 10 + (i2 : Int) := IntWalk.i64_in _ (by omega)
                    refine start_ (n := 10) (S := fun w' => RB w' A7 (64 - m2) (r.drop m2) ∧ Below wr.heap.size wr w') (ds := []) #[false, false, false, false, false, false, false, false, false, false] (by kernel_rfl) rfl rfl ⟨HC7.out, (below_drew (Below.refl _ _))⟩ (fun hHeld => ?_)
                    refine pure_ (i := 0) (N := some 144) (v := ?_) (a' := ?_) #[true, false, false, false, false, false, false, false, false, false] rfl rfl (by kernel_rfl) (fun _ _ _ h => h) (Or.inl ⟨by rfl, ?_⟩) ?_ ?_
                    rotate_left
                    · intro w'
                      go_simp
                      with_reducible rfl
                    rotate_left
                    · simp only [Act.put, List.setIfInBounds_toArray, List.set_cons_zero, List.set_cons_succ, i64_w, i32_w]
                      rfl
                    refine pure_ (i := 1) (N := some 145) (v := ?_) (a' := ?_) #[true, true, false, false, false, false, false, false, false, false] rfl rfl (by kernel_rfl) (fun _ _ _ h => h) (Or.inl ⟨by rfl, ?_⟩) ?_ ?_
                    rotate_left
                    · intro w'
                      go_simp
                      with_reducible rfl
                    rotate_left
                    · simp only [Act.put, List.setIfInBounds_toArray, List.set_cons_zero, List.set_cons_succ, i64_w, i32_w]
                      rfl
                    refine pure_ (i := 2) (N := some 146) (v := ?_) (a' := ?_) #[true, true, true, false, false, false, false, false, false, false] rfl rfl (by kernel_rfl) (fun _ _ _ h => h) (Or.inl ⟨by rfl, ?_⟩) ?_ ?_
                    rotate_left
                    · intro w'
                      go_simp
                      with_reducible rfl
                    rotate_left
                    · simp only [Act.put, List.setIfInBounds_toArray, List.set_cons_zero, List.set_cons_succ, i64_w, i32_w]
                      rfl
                    refine pure_ (i := 3) (N := some 147) (v := ?_) (a' := ?_) #[true, true, true, true, false, false, false, false, false, false] rfl rfl (by kernel_rfl) (fun _ _ _ h => h) (Or.inl ⟨by rfl, ?_⟩) ?_ ?_
                    rotate_left
                    · intro w'
                      go_simp
                      with_reducible rfl
                    rotate_left
                    · simp only [Act.put, List.setIfInBounds_toArray, List.set_cons_zero, List.set_cons_succ, i64_w, i32_w]
                      rfl
                    refine pure_ (i := 4) (N := some 148) (v := ?_) (a' := ?_) #[true, true, true, true, true, false, false, false, false, false] rfl rfl (by kernel_rfl) (fun _ _ _ h => h) (Or.inl ⟨by rfl, ?_⟩) ?_ ?_
                    rotate_left
                    · intro w'
                      go_simp
                      with_reducible rfl
                    rotate_left
                    · simp only [Act.put, List.setIfInBounds_toArray, List.set_cons_zero, List.set_cons_succ, i64_w, i32_w]
                      rfl
                    refine pure_ (i := 6) (N := some 150) (v := ?_) (a' := ?_) #[true, true, true, true, true, false, true, false, false, false] rfl rfl (by kernel_rfl) (fun _ _ _ h => h) (Or.inl ⟨by rfl, ?_⟩) ?_ ?_
                    rotate_left
                    · intro w'
                      go_simp
                      with_reducible rfl
                    rotate_left
                    · simp only [Act.put, List.setIfInBounds_toArray, List.set_cons_zero, List.set_cons_succ, i64_w, i32_w]
                      rfl
                    refine one_ (i := 5) (N := some 149) #[true, true, true, true, true, true, true, false, false, false] rfl rfl (by kernel_rfl) (by decide) (fun K hK => ?_)
                    refine goes_ Try.func26 (by kernel_rfl) rfl #[.int .i64 (10 + (i2 : Int))] (by rfl) rfl rfl (by simp only [List.map_toArray, List.map_cons, List.map_nil]; rfl) ?_
                    with_reducible refine (sector_calls (10 + (i2 : Int)) _ (by omega)).mono ?_
                    rintro e w12 ⟨v12, rfl, ho12, hb12⟩
                    refine ⟨_, rfl, ?_⟩
                    have hh := hHeld
                    obtain ⟨A12, c12, rfl, hc12, hC12⟩ := OB_reads ho12
                    obtain ⟨A13, c13, hcu2, hl13, hC13⟩ := cut_from (P := Try.prog) 22 5 Try.underlying22 infoB (c := c12) hC12 hc12 m2 (m2 : Int) rfl (by simp; omega)
                    rw [List.length_drop] at hC13
                    simp only [List.length_replicate] at hc12 hC12 hcu2 hl13 hC13 ⊢
                    have hq7 := Kd.C_below hh.1 hb12
                    have hB12 := below_step hh.2 hb12
                    refine hK.out _ _ ⟨hq7, hB12⟩ (fun hHeld => ?_)
                    clear hK K
                    refine norm_ (a' := ?_) ?_ ?_
                    rotate_left
                    · show Act.put _ (some 149) _ = _
                      simp only [Act.put, List.setIfInBounds_toArray, List.set_cons_zero, List.set_cons_succ, i64_w, i32_w]
                      rfl
                    refine pure_ (i := 7) (N := some 151) (v := ?_) (a' := ?_) #[true, true, true, true, true, true, true, true, false, false] rfl rfl (by kernel_rfl) (fun _ _ _ h => h) (Or.inl ⟨by rfl, ?_⟩) ?_ ?_
                    rotate_left
                    · intro w'
                      go_simp
                      with_reducible rfl
                    rotate_left
                    · simp only [Act.put, List.setIfInBounds_toArray, List.set_cons_zero, List.set_cons_succ, i64_w, i32_w]
                      rfl
                    refine one_ (i := 8) (N := some 152) #[true, true, true, true, true, true, true, true, true, false] rfl rfl (by kernel_rfl) (by decide) (fun K hK => ?_)
                    refine goes_ Try.func17 (by kernel_rfl) rfl #[.slice A7 (64 - m2) c7, .slice A13 (64 - m2) c13] (by rfl) rfl rfl (by simp only [List.map_toArray, List.map_cons, List.map_nil]; rfl) ?_
                    with_reducible refine (sameb_calls _ _ _ (r.drop m2) _ _ _ ((List.replicate 64 (10 + (i2 : Int))).drop m2) _ hHeld.1 hC13).mono ?_
                    rintro e w14 ⟨rfl, ⟨m14, rfl⟩⟩
                    refine ⟨_, rfl, ?_⟩
                    have hh := hHeld
                    rw [decide_eq_true HDR.out]
                    have hq8 := Kd.C_drewN hh.1 m14
                    have hB14 := pw_below_drewN hh.2 m14
                    refine hK.out _ _ ⟨hq8, hB14⟩ (fun hHeld => ?_)
                    clear hK K
                    refine norm_ (a' := ?_) ?_ ?_
                    rotate_left
                    · show Act.put _ (some 152) _ = _
                      simp only [Act.put, List.setIfInBounds_toArray, List.set_cons_zero, List.set_cons_succ, i64_w, i32_w]
                      rfl
                    refine pure_ (i := 9) (N := some 153) (v := ?_) (a' := ?_) #[true, true, true, true, true, true, true, true, true, true] rfl rfl (by kernel_rfl) (fun _ _ _ h => h) (Or.inl ⟨by rfl, ?_⟩) ?_ ?_
                    rotate_left
                    · intro w'
                      go_simp
                      with_reducible rfl
                    rotate_left
                    · simp only [Act.put, List.setIfInBounds_toArray, List.set_cons_zero, List.set_cons_succ, i64_w, i32_w]
                      rfl
                    refine done_ (by kernel_rfl) ?_
                    go_wp2
                    go_roundw
                    case rel => exact ⟨i2 + 1, 1, by omega, by omega, by go_num, rfl, ⟨by rw [if_pos (by omega)]⟩, ⟨HDr.out.after hB14⟩, ⟨below_step HBr.out hB14⟩, ⟨own_keep HWr.out (hB14.block g HWr.out.lt)⟩⟩
                    case measure => simp [intOf]; omega
            · obtain rfl : i2 = k := by omega
              have t1 : decide ((mv : Int) ≤ 1) = true := decide_eq_true (by omega)
              clear HW HMV HKEY HF
              go_wp2_with fail
              refine (dclone_calls a i2 _ _ HD.out (by omega)).mono ?_
              rintro e w8 ⟨b, rfl, h8, hbf, hb8⟩
              have HBF := Aside0.mk (show ∀ i, a.has i → ¬ b.has i from fun i hi hi' => by have h1 := HD.out.lt i hi; have h2 := hbf i hi'; omega)
              have HBW := Aside0.mk (show ∀ i, b.has i → w.heap.size ≤ i from fun i hi => Nat.le_trans HB.out.size (hbf i hi))
              have H8 := Aside0.mk h8
              have HD8 := Aside0.mk (HD.out.after hb8)
              have HB8 := Aside0.mk (below_step HB.out hb8)
              clear h8 hbf hb8 HD HB
              go_wp2_with fail
              refine (crash_calls b i2 S _ 0 _ H8.out (by omega)).mono ?_
              rintro e w9 ⟨rfl, w9', hb9, hb9', h9⟩
              have HD9 := Aside0.mk ((HD8.out.after hb9).but hb9' HBF.out)
              have HB9 := Aside0.mk (But.step (below_step HB8.out hb9) hb9' HBW.out)
              obtain ⟨S2, h9, hs2⟩ : ∃ S2, Dsk w9 b i2 S2 ∧ S2.now = S.now := ⟨_, h9, crash_again S HPD.out _ _⟩
              have H9 := Aside0.mk h9
              have HS2 := Aside0.mk hs2
              clear h9 hs2 hb9 hb9' HD8 HB8 H8
              go_wp2
              go_loopw [21] (fun i wr => ∃ i3 : Nat, i3 ≤ i2 ∧ i = .int .i64 i3 ∧ Aside0 (Dsk wr a i2 S) ∧ Aside0 (Dsk wr b i2 S2) ∧ Aside0 (Below w.heap.size w wr)) (fun i _ => i2 - (intOf i).toNat)
              case atStart => exact ⟨0, by omega, rfl, HD9, H9, HB9⟩
              case round =>
                obtain ⟨i3, hi3, rfl, HDa, HDb, HB⟩ := hrel
                clear HD9 H9 HB9
                by_cases hlt5 : i3 < i2
                · have hki : (i3 : Int) < (i2 : Int) := by omega
                  have hra : S.read i2 (i3 : Int) = S.now.getD i3 [] := by
                    unfold DS.read
                    rw [if_pos (by unfold isB; exact decide_eq_true (by omega)), Int.toNat_natCast]
                  have hrb : S2.read i2 (i3 : Int) = S.now.getD i3 [] := by
                    unfold DS.read
                    rw [if_pos (by unfold isB; exact decide_eq_true (by omega)), Int.toNat_natCast, HS2.out]
                  have HRA := Aside0.mk hra
                  have HRB := Aside0.mk hrb
                  clear hra hrb
                  generalize S.now.getD i3 [] = r at *
                  go_wp2_with fail
                  refine (read_calls b i2 _ (i3 : Int) _ HDb.out).mono ?_
                  rw [HRB.out]
                  rintro e w4 ⟨v4, rfl, ho4, hb4⟩
                  obtain ⟨A4, c4, rfl, hc4, hC4⟩ := OB_reads ho4
                  have HC4 := Aside0.mk hC4
                  have HDa4 := Aside0.mk (HDa.out.after hb4)
                  have HDb4 := Aside0.mk (HDb.out.after hb4)
                  have HB4 := Aside0.mk (below_step HB.out hb4)
                  clear ho4 hb4 hc4 hC4 HDa HDb HB
                  go_wp2_with fail
                  refine (read_calls a i2 _ (i3 : Int) _ HDa4.out).mono ?_
                  rw [HRA.out]
                  rintro e w5 ⟨v5, rfl, ho5, hb5⟩
                  obtain ⟨A5, c5, rfl, hc5, hC5⟩ := OB_reads ho5
                  have HC5 := Aside0.mk hC5
                  have HC45 := Aside0.mk (Kd.C_below HC4.out hb5)
                  have HDa5 := Aside0.mk (HDa4.out.after hb5)
                  have HDb5 := Aside0.mk (HDb4.out.after hb5)
                  have HB5 := Aside0.mk (below_step HB4.out hb5)
                  clear ho5 hb5 hc5 hC5 HDa4 HDb4 HB4 HC4
                  go_wp2_with fail
                  refine (sameb_calls _ _ _ r _ _ _ r _ HC45.out HC5.out).mono ?_
                  rw [decide_eq_true (show r = r from rfl)]
                  rintro e w6 ⟨rfl, ⟨m6, rfl⟩⟩
                  go_wp2
                  go_roundw
                  case rel => exact ⟨i3 + 1, by omega, by go_num, ⟨HDa5.out.drewN _⟩, ⟨HDb5.out.drewN _⟩, ⟨pw_below_drewN HB5.out _⟩⟩
                  case measure => simp [intOf]; omega
                · obtain rfl : i3 = i2 := by omega
                  clear HDb HS2
                  go_wp2_with fail
                  refine (pending_calls a i3 _ _ HDa.out).mono ?_
                  rw [HPD.out]
                  rintro e w6 ⟨v6, rfl, ho6, hb6⟩
                  obtain ⟨A6, c6, rfl, hc6, hC6⟩ := Kd.R_reads ho6
                  have H6 := Aside0.mk (HDa.out.after hb6)
                  have HB6 := Aside0.mk (below_step HB.out hb6)
                  clear ho6 hb6 hC6 hc6 HDa HB
                  go_wp2_with fail
                  refine (dead_calls a i3 _ _ H6.out).mono ?_
                  rw [HDD.out]
                  rintro e w7 ⟨rfl, rfl⟩
                  go_wp2_with fail
                  refine (wakes17_calls _).mono ?_
                  rintro e w9 ⟨rfl, hb9⟩
                  go_wp2
                  go_ret
                  exact ⟨rfl, below_step HB6.out hb9⟩
end Go.Proofs.Ytcgmnmohpkolmaa
