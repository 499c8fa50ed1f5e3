/- law01's GaugeTexts. -/
import Derived.Test.YtolecdgpfflijaaDoorGaugeTextsPure
import Derived.Test.YtolecdgpfflijaaDoorGaugeWakes
namespace Go.Proofs.YtolecdgpfflijaaDoor
open Go.RowKit Go.Proofs.YtolecdgpfflijaaDoorW.PrintWords Go.Proofs.YtolecdgpfflijaaDoorW.PrintLast Go.Proofs.YtolecdgpfflijaaDoorW.PrintMore
set_option linter.unusedVariables false
set_option linter.unusedSimpArgs false
set_option maxRecDepth 1000000
theorem text_at {x : Nat} {D : ByteArray} (h : TextIs x D) (w : World) (ht : Tens w) : Calls Tryd.prog 13 #[.float .f64 x] w fun e w' => e = .returned (.string D) ∧ Below w.heap.size w w' := h w ht
/-- A new row of bytes. -/
theorem rb_new {w : World} {g : Nat} {t : TypeId} (l : List Int) (n : Nat) (hn : l.length = n) (hl : n < 100) (h : w.heap[g]? = some (.cells (l.map (Value.int .u8)).toArray t (0, 0))) : RB w (some ⟨g, 0, none⟩) n l := by
  refine Kd.C_of_reads (enc := Value.int .u8) (d := (0 : Int)) ⟨hn, by omega, fun _ => ⟨_, rfl, fun j hj => ?_⟩⟩
  have := blk_cell h j
  rw [add_plain, this]
  simp [List.getD_eq_getElem?_getD, List.getElem?_map, List.getElem?_eq_getElem (show j < l.length by omega)]
theorem str_one (d : Nat) (h : d < 10) : strOfNums [48 + (d : Int)] = dg d := by
  rw [dg_small h]
  rcases (by omega : d = 0 ∨ d = 1 ∨ d = 2 ∨ d = 3 ∨ d = 4 ∨ d = 5 ∨ d = 6 ∨ d = 7 ∨ d = 8 ∨ d = 9) with rfl | rfl | rfl | rfl | rfl | rfl | rfl | rfl | rfl | rfl <;> decide +kernel
theorem str_two (c d : Nat) (hc : c < 10) (h : d < 10) : strOfNums [48 + (c : Int), 48 + (d : Int)] = dg c ++ dg d := by
  rw [← str_one c hc, ← str_one d h]
  rcases (by omega : d = 0 ∨ d = 1 ∨ d = 2 ∨ d = 3 ∨ d = 4 ∨ d = 5 ∨ d = 6 ∨ d = 7 ∨ d = 8 ∨ d = 9) with rfl | rfl | rfl | rfl | rfl | rfl | rfl | rfl | rfl | rfl <;>
  rcases (by omega : c = 0 ∨ c = 1 ∨ c = 2 ∨ c = 3 ∨ c = 4 ∨ c = 5 ∨ c = 6 ∨ c = 7 ∨ c = 8 ∨ c = 9) with rfl | rfl | rfl | rfl | rfl | rfl | rfl | rfl | rfl | rfl <;> decide +kernel
theorem share_zero (e : Nat) (he : e ≤ 2) : shareO 0 ((2 ^ e : Nat) : Int) = some 0 := by
  rcases (by omega : e = 0 ∨ e = 1 ∨ e = 2) with rfl | rfl | rfl <;> decide +kernel
theorem text_zero : TextIs 0 (centsR 0) := by
  have h : centsR 0 = ⟨#[48, 46, 48, 48]⟩ := by decide +kernel
  rw [h]
  intro w ht
  refine text_pos 0 _ w (by decide) (by decide) (by decide) (by decide) (fun w ht => ?_) ht
  have h := digits_num 0 0 0 0 w (by decide +kernel) (by decide +kernel) (by decide +kernel) (by decide +kernel) (by decide +kernel) (by omega) (by omega) ht
  have e : cents 0 = ⟨#[48, 46, 48, 48]⟩ := by decide +kernel
  rw [e] at h
  exact h
/-- The shares of the law, and their texts. -/
theorem texts_pure (n e : Nat) (h : n < 100000) (he : e ≤ 2) : ∃ a b : Nat, shareO (n : Int) ((2 ^ e : Nat) : Int) = some a ∧ shareO (-(n : Int)) ((2 ^ e : Nat) : Int) = some b ∧ TextIs a (centsR (n * 100 / 2 ^ e)) ∧ TextIs b (preF (decide (0 < (n : Int))) ++ centsR (n * 100 / 2 ^ e)) := by
  by_cases h0 : n = 0
  · subst h0
    refine ⟨0, 0, share_zero e he, ?_, ?_, ?_⟩
    · exact share_zero e he
    · rw [Nat.zero_mul, Nat.zero_div]; exact text_zero
    · rw [Nat.zero_mul, Nat.zero_div, show preF (decide (0 < ((0 : Nat) : Int))) = ⟨#[]⟩ from rfl]
      rw [show (⟨#[]⟩ : ByteArray) ++ centsR 0 = centsR 0 from by apply ByteArray.ext; simp]
      exact text_zero
  · have h1 := share_exact false n e h0 h he
    have h2 := share_exact true n e h0 h he
    have h3 := text_share false n e h0 h he
    have h4 := text_share true n e h0 h he
    rw [show preF false ++ centsR (n * 100 / 2 ^ e) = centsR (n * 100 / 2 ^ e) from by apply ByteArray.ext; simp [preF]] at h3
    rw [show decide (0 < (n : Int)) = true from decide_eq_true (by omega)]
    exact ⟨_, _, h1, h2, h3, h4⟩
/-- The loop's state: k is still to be told, T is told. -/
def digSt (N k : Nat) (T : ByteArray) : Prop := (T = ⟨#[]⟩ ∧ k = N / 100) ∨ (¬ T.toList = [] ∧ ((0 < k ∧ dg (N / 100) = dg k ++ T) ∨ (k = 0 ∧ dg (N / 100) = T)))
def empV (v : Value) : Nat := match v with | .string b => if b.size = 0 then 1 else 0 | _ => 0
theorem toList_size {T : ByteArray} : T.toList = [] ↔ T.size = 0 := by
  rw [← List.length_eq_zero_iff]
  have : T.toList.length = T.size := by rw [Go.ByteArray.toList_eq]; simp
  omega
theorem digSt_end {N k : Nat} {T : ByteArray} (h : digSt N k T) (h0 : ¬ 0 < k) (hT : ¬ T.toList = []) : dg (N / 100) = T := by
  rcases h with ⟨h, _⟩ | ⟨_, ⟨h, _⟩ | ⟨_, h⟩⟩
  · subst h
    exact absurd (toList_size.2 rfl) hT
  · omega
  · exact h
theorem digSt_eq {N k : Nat} {T : ByteArray} (h : digSt N k T) (hgo : 0 < k ∨ T.toList = []) : dg (N / 100) = dg k ++ T := by
  rcases h with ⟨h, h2⟩ | ⟨h1, ⟨_, h⟩ | ⟨h2, _⟩⟩
  · rw [h, h2]
    apply ByteArray.ext
    simp
  · exact h
  · rcases hgo with q | q
    · omega
    · exact absurd q h1
theorem digSt_step {N k : Nat} {T : ByteArray} (h : digSt N k T) (hgo : 0 < k ∨ T.toList = []) (hN : N < 10000001 := by omega) : (dg (k % 10) ++ T).size ≤ 20 ∧ digSt N (k / 10) (dg (k % 10) ++ T) := by
  have he := digSt_eq h hgo
  have hd : (dg (k % 10)).size = 1 := by rw [dg_small (by omega)]; rfl
  have hne : ¬ (dg (k % 10) ++ T).toList = [] := by rw [toList_size, ByteArray.size_append, hd]; omega
  have hs := dg_size (N / 100) (by omega)
  by_cases h10 : k < 10
  · have e : dg (k % 10) = dg k := by rw [Nat.mod_eq_of_lt h10]
    refine ⟨by rw [e, ← he]; exact hs, .inr ⟨hne, .inr ⟨by omega, by rw [e]; exact he⟩⟩⟩
  · have e : dg k = dg (k / 10) ++ dg (k % 10) := by rw [dg_step h10, dg_small (n := k % 10) (by omega)]
    have he2 : dg (N / 100) = dg (k / 10) ++ (dg (k % 10) ++ T) := by rw [he, e, ByteArray.append_assoc]
    refine ⟨?_, .inr ⟨hne, .inl ⟨by omega, he2⟩⟩⟩
    have := congrArg ByteArray.size he2
    rw [ByteArray.size_append (a := dg (k / 10))] at this
    omega
theorem digSt_meas {N k : Nat} {T : ByteArray} (h : digSt N k T) (hgo : 0 < k ∨ T.toList = []) :
    2 * (intOf (.int .i64 ((k / 10 : Nat) : Int))).toNat + empV (.string (dg (k % 10) ++ T)) < 2 * (intOf (.int .i64 (k : Int))).toNat + empV (.string T) := by
  have hd : (dg (k % 10)).size = 1 := by rw [dg_small (by omega)]; rfl
  have h1 : empV (.string (dg (k % 10) ++ T)) = 0 := if_neg (by rw [ByteArray.size_append, hd]; omega)
  rw [h1]
  simp only [intOf, Int.toNat_natCast]
  rcases hgo with q | q
  · omega
  · have : empV (.string T) = 1 := if_pos (toList_size.1 q)
    omega
set_option maxHeartbeats 8000000 in
theorem gaugeTexts_calls (n m : Int) (w : World) (ht : Tens w) :
    Calls Tryd.prog 3 #[.int .i64 n, .int .i64 m] w fun e w' => e = .returned (.bool true) ∧ Below w.heap.size w w' := by
  have HT := Aside0.mk ht
  obtain ⟨u0, u1⟩ := wi_bd n 100000 (by omega)
  obtain ⟨v0, v1⟩ := wi_bd m 3 (by omega)
  obtain ⟨q, hq⟩ : ∃ q : Nat, wi n 100000 = (q : Int) := ⟨(wi n 100000).toNat, by omega⟩
  obtain ⟨e, he⟩ : ∃ e : Nat, wi m 3 = (e : Int) := ⟨(wi m 3).toNat, by omega⟩
  have hq1 : q < 100000 := by omega
  have he1 : e ≤ 2 := by omega
  obtain ⟨xa, xb, hsa, hsb, hta, htb⟩ := texts_pure q e hq1 he1
  obtain ⟨N, hN⟩ : ∃ N, N = q * 100 / 2 ^ e := ⟨_, rfl⟩
  rw [← hN] at hta htb
  have hdiv : Int.tdiv ((q : Int) * 100) ((2 ^ e : Nat) : Int) = (N : Int) := by rw [hN]; rfl
  have hN1 : N < 10000001 := by rw [hN]; have := Nat.div_le_self (q * 100) (2 ^ e); omega
  have HSA := Aside0.mk hsa
  have HSB := Aside0.mk hsb
  have HTA := Aside0.mk hta
  have HTB := Aside0.mk htb
  have HQ := Aside0.mk hq
  have HE := Aside0.mk he
  have HZ := Aside0.mk (heap_alloc_new w (.cells #[.int .i64 1, .int .i64 2, .int .i64 4] 3))
  have HB1 := Aside0.mk (below_alloc (Below.refl _ w) (.cells #[.int .i64 1, .int .i64 2, .int .i64 4] 3))
  have hcell : (w.alloc (.cells #[.int .i64 1, .int .i64 2, .int .i64 4] 3)).cell? ⟨w.heap.size, e, none⟩ = some (.int .i64 ((2 ^ e : Nat) : Int)) := by
    have hb := blk_cell HZ.out e
    rcases (by omega : e = 0 ∨ e = 1 ∨ e = 2) with rfl | rfl | rfl <;> exact hb
  have hh1 : (1 : Int) ≤ ((2 ^ e : Nat) : Int) := by have := Nat.pow_pos (n := e) (show 0 < 2 by omega); omega
  have hh4 : ((2 ^ e : Nat) : Int) ≤ 4 := by rcases (by omega : e = 0 ∨ e = 1 ∨ e = 2) with rfl | rfl | rfl <;> decide
  have e0 : (0 : Int) ≤ (e : Int) := by omega
  have e3 : (e : Int) < 3 := by omega
  generalize ((2 ^ e : Nat) : Int) = h at *
  clear ht hsa hsb hta htb hq he hN u0 u1 v0 v1 he1
  go_enter Tryd.func3, Tryd.ntmps3
  go_wp2_with fail
  ((with_reducible refine (within_calls n 100000 _ (by omega)).mono ?_); rw [HQ.out]; rintro e1 w1 ⟨rfl, rfl⟩)
  go_wp2_with fail
  ((with_reducible refine (within_calls m 3 _ (by omega)).mono ?_); rw [HE.out]; rintro e1 w1 ⟨rfl, rfl⟩)
  go_wp2_with fail
  ((with_reducible refine (share_calls q h _).mono ?_); rintro e1 w2 ⟨r, rfl, hr, hc, hd⟩)
  rw [HSA.out] at hc
  obtain rfl : xa = r := (show r = xa from hc).symm
  have HB2 := Aside0.mk (below_step HB1.out hd.below)
  clear hr hc hd HB1 HZ hcell
  have hh0 : ¬ h = 0 := by omega
  have hhm : ¬ h = -1 := by omega
  go_upto_region 5 with (fail)
  have HZ2 := Aside0.mk (heap_alloc_new w2 (.cells #[.int .u8 (48 + (N : Int) / 10 % 10), .int .u8 (48 + (N : Int) % 10)] 5))
  have HB3 := Aside0.mk (below_alloc HB2.out (.cells #[.int .u8 (48 + (N : Int) / 10 % 10), .int .u8 (48 + (N : Int) % 10)] 5))
  have hcv := Kd.C_string (P := Tryd.prog) (c := 2) Tryd.underlying26 Tryd.underlying5 Tryd.underlying9 (rb_new [48 + (N : Int) / 10 % 10, 48 + (N : Int) % 10] 2 rfl (by omega) HZ2.out)
  rw [show strOfNums [48 + (N : Int) / 10 % 10, 48 + (N : Int) % 10] = dg (N / 10 % 10) ++ dg (N % 10) from str_two (N / 10 % 10) (N % 10) (by omega) (by omega)] at hcv
  have s2 := dg_size (N / 10 % 10) (by omega)
  have s3 := dg_size (N % 10) (by omega)
  have s1 := dg_size (N / 100) (by omega)
  have HC := Aside0.mk (show centsR N = ((dg (N / 100) ++ ⟨#[46]⟩) ++ dg (N / 10 % 10)) ++ dg (N % 10) from rfl)
  have hS2 : (dg (N / 10 % 10) ++ dg (N % 10)).size ≤ 40 := by rw [ByteArray.size_append]; omega
  obtain ⟨S2, hS⟩ : ∃ S2, S2 = dg (N / 10 % 10) ++ dg (N % 10) := ⟨_, rfl⟩
  have HS := Aside0.mk hS
  rw [← hS] at hcv hS2
  have k0 : (0 : Int) ≤ (N : Int) / 10 % 10 := by omega
  have k1 : (N : Int) / 10 % 10 < 10 := by omega
  have k2 : (0 : Int) ≤ (N : Int) % 10 := by omega
  have k3 : (N : Int) % 10 < 10 := by omega
  clear HZ2 s2 s3 hS
  go_wp2
  go_loopw [9, 10] (fun v i wr => ∃ (k : Nat) (T T0 : ByteArray), i = .int .i64 k ∧ v = .string T ∧ T0 = T ∧ k ≤ 100000 ∧ T.size ≤ 20 ∧ Aside0 (digSt N k T0) ∧ Aside0 (Below w.heap.size w wr)) (fun v i _ => 2 * (intOf i).toNat + empV v)
  case atStart => exact ⟨N / 100, ⟨#[]⟩, ⟨#[]⟩, rfl, rfl, rfl, by omega, by decide, ⟨.inl ⟨rfl, rfl⟩⟩, HB3⟩
  case round =>
    obtain ⟨k, T0, T, rfl, rfl, rfl, hk, hTs, HD, HBK⟩ := hrel
    by_cases hgo : 0 < k ∨ T.toList = []
    · have HN := Aside0.mk (digSt_step HD.out hgo)
      have hmeas := digSt_meas HD.out hgo
      have d1 := dg_size (k % 10) (by omega)
      have HZ3 := Aside0.mk (heap_alloc_new wr (.cells #[.int .u8 (48 + (k : Int) % 10)] 5))
      have HB4 := Aside0.mk (below_alloc HBK.out (.cells #[.int .u8 (48 + (k : Int) % 10)] 5))
      have hcv := Kd.C_string (P := Tryd.prog) (c := 1) Tryd.underlying26 Tryd.underlying5 Tryd.underlying9 (rb_new [48 + (k : Int) % 10] 1 rfl (by omega) HZ3.out)
      rw [show strOfNums [48 + (k : Int) % 10] = dg (k % 10) from str_one (k % 10) (by omega)] at hcv
      have hds : (dg (k % 10)).size = 1 := by rw [dg_small (by omega)]; rfl
      have r0 : (0 : Int) ≤ (k : Int) % 10 := by omega
      have r1 : (k : Int) % 10 < 10 := by omega
      generalize dg (k % 10) = E1 at *
      clear HZ3 HD
      by_cases hk0 : 0 < k
      · have hk1 : (0 : Int) < (k : Int) := by omega
        clear hgo
        go_wp2
        go_roundw
        case rel => exact ⟨k / 10, E1 ++ T, _, rfl, rfl, rfl, by omega, HN.out.1, ⟨HN.out.2⟩, HB4⟩
        case measure => exact hmeas
      · have hk1 : ¬ (0 : Int) < (k : Int) := by omega
        have hT : T.toList = [] := hgo.resolve_left hk0
        clear hgo
        go_wp2
        go_roundw
        case rel => exact ⟨k / 10, E1 ++ T, _, rfl, rfl, rfl, by omega, HN.out.1, ⟨HN.out.2⟩, HB4⟩
        case measure => exact hmeas
    · have hk1 : ¬ (0 : Int) < (k : Int) := by omega
      have hT : ¬ T.toList = [] := fun h => hgo (.inr h)
      have hE : dg (N / 100) = T := digSt_end HD.out (fun h => hgo (.inl h)) hT
      have HCE := Aside0.mk (show centsR N = T ++ ⟨#[46]⟩ ++ S2 from by rw [HC.out, hE, HS.out, ByteArray.append_assoc (a := T ++ ⟨#[46]⟩)])
      have HA := Aside0.mk (text_at HTA.out)
      have HB := Aside0.mk (text_at HTB.out)
      obtain ⟨P, hP⟩ : ∃ P, P = preF (decide (0 < (q : Int))) := ⟨_, rfl⟩
      have hPs : P.size ≤ 1 := by rw [hP]; cases decide (0 < (q : Int)) <;> decide
      rw [HCE.out] at HA HB
      rw [← hP, show P ++ (T ++ ⟨#[46]⟩ ++ S2) = P ++ T ++ ⟨#[46]⟩ ++ S2 from by simp only [ByteArray.append_assoc]] at HB
      have HPP := Aside0.mk hP
      obtain rfl : k = 0 := by omega
      clear HD hgo hE hP hk1 hk
      have hT2 : T.toList.isEmpty = false := by cases hl : T.toList with | nil => exact absurd hl hT | cons => rfl
      go_upto_if 57 with (fail)
      go_cut [11] (fun s wx => s = .string P ∧ Aside0 (wx = wr))
      case first =>
        by_cases hq0 : (0 : Int) < (q : Int)
        · have hPe : P = ⟨#[45]⟩ := by rw [HPP.out, decide_eq_true hq0]; rfl
          subst hPe
          go_wp2
          go_meet
          exact ⟨rfl, ⟨rfl⟩⟩
        · have hPe : P = ⟨#[]⟩ := by rw [HPP.out, decide_eq_false hq0]; rfl
          subst hPe
          go_wp2
          go_meet
          exact ⟨rfl, ⟨rfl⟩⟩
      rotate_left
      obtain ⟨rfl, hwx⟩ := hcut
      obtain ⟨rfl⟩ := hwx
      go_wp2_with fail
      ((with_reducible refine (HA.out _ (HT.out.below HBK.out)).mono ?_); rintro e1 w5 ⟨rfl, hb⟩)
      have HB5 := Aside0.mk (below_step HBK.out hb)
      clear hb
      go_wp2_with fail
      ((with_reducible refine (share_calls (-(q : Int)) h _).mono ?_); rintro e1 w6 ⟨r, rfl, hr, hc, hd⟩)
      rw [HSB.out] at hc
      obtain rfl : xb = r := (show r = xb from hc).symm
      have HB6 := Aside0.mk (below_step HB5.out hd.below)
      clear hr hc hd
      go_wp2_with fail
      ((with_reducible refine (HB.out _ (HT.out.below HB6.out)).mono ?_); rintro e1 w7 ⟨rfl, hb⟩)
      have HB7 := Aside0.mk (below_step HB6.out hb)
      clear hb
      go_wp2_with fail
      ((with_reducible refine (wakes01_calls _ (HT.out.below HB7.out)).mono ?_); rintro e1 w8 ⟨rfl, hb⟩)
      go_wp2
      go_ret
      exact ⟨rfl, below_step HB7.out hb⟩
theorem gaugeTexts_law (n m : Int) (w : World) (hL : laidMetH Tryd.prog Rows.gaugeTextsRow.laid w) (hn : (Lit.int .i64 n).wf = true) (hm : (Lit.int .i64 m).wf = true) :
    Calls Tryd.prog 3 #[.int .i64 n, .int .i64 m] w fun e w' => e = .returned (.bool true) ∧ Below w.heap.size w w' :=
  gaugeTexts_calls n m w (tens_of_laid hL)
end Go.Proofs.YtolecdgpfflijaaDoor
