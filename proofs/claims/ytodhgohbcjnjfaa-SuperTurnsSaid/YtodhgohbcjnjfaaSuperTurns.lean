/- SuperTurns: what the law's function returns. -/
import Derived.Test.YtodhgohbcjnjfaaSuperTurnsPure
import Derived.Test.YtodhgohbcjnjfaaSuperBack
namespace Go.Proofs.Ytodhgohbcjnjfaa
open Go.RowKit Go.Proofs.YtodhgohbcjnjfaaW.PrintWords Go.Proofs.YtodhgohbcjnjfaaW.PrintLast Go.Proofs.YtodhgohbcjnjfaaW.PrintMore
set_option linter.unusedVariables false
set_option linter.unusedSimpArgs false
set_option maxRecDepth 100000
theorem or1_u8 (x : Int) (hx : 0 ≤ x ∧ x < 256) : (0 ≤ bits .or .u8 x 1 ∧ bits .or .u8 x 1 < 256) ∧ bits .or .u8 x 1 ≠ 0 := by
  rw [u8_or x 1 hx.1 hx.2 (by omega) (by omega)]
  have h1 : x.toNat ||| (1 : Int).toNat < 2 ^ 8 := Nat.or_lt_two_pow (by omega) (by decide)
  have h2 : 1 ≤ x.toNat ||| (1 : Int).toNat := Nat.right_le_or
  omega
theorem But.step' {S : Nat → Prop} {w w1 w2 : World} (h : Below w.heap.size w w1) (hb : But S w1 w2) (hS : ∀ i, S i → w.heap.size ≤ i) : Below w.heap.size w w2 := h.trans (hb.below hS h.size)
theorem OB_away' {w1 : World} {a : DA} {v : Value} {l : List Int} {A : Option Addr} {n c B : Nat} (h : OB w1 B v l) (hv : v = .slice A n c) (hp : 0 < l.length) (hd : ∀ i, a.has i → i < B) : ∀ ad, A = some ad → ¬ a.has ad.block := fun ad e hh => by
  obtain ⟨g, cap, e2, hg, _, _⟩ := Kd.R_form h hp
  rw [hv] at e2
  injection e2 with e3
  rw [e3] at e
  cases e
  have := hd g hh
  omega
set_option maxHeartbeats 16000000 in
theorem superTurns_calls (n at_ x : Int) (w : World) (hx : 0 ≤ x ∧ x < 256) :
    Calls Try.prog 9 #[.int .i64 n, .int .i64 at_, .int .u8 x] w fun e w' => e = .returned (.bool true) ∧ Below w.heap.size w w' := by
  go_enter Try.func9, Try.ntmps9
  go_wp2_with fail
  refine (new_calls 8 8 rfl _ (by omega) (by omega)).mono ?_
  rintro e w1 ⟨a, rfl, h1, ha, hb1⟩
  have H1 := Aside0.mk h1
  have HB1 := Aside0.mk hb1
  have HA := Aside0.mk ha
  clear h1 hb1 ha
  go_wp2_with fail
  refine (within_calls _ _ _ (by omega)).mono ?_
  rintro e w2 ⟨rfl, rfl⟩
  have hwi := wi_bd n 20 (by omega)
  obtain ⟨k, hk⟩ : ∃ k : Nat, wi n 20 = (k : Int) := ⟨(wi n 20).toNat, by omega⟩
  rw [hk] at hwi ⊢
  clear hk
  obtain ⟨k0, k1⟩ := hwi
  have kn : k < 20 := by omega
  go_wp2_with fail
  go_loopw [8] (fun i wr => ∃ m : Nat, 1 ≤ m ∧ m ≤ k + 3 ∧ i = .int .i64 m ∧ Aside0 (Dsk wr a 8 (stT (m - 1))) ∧ Aside0 (Below w.heap.size w wr)) (fun i _ => k + 3 - (intOf i).toNat)
  case atStart => exact ⟨1, by omega, by omega, rfl, H1, HB1⟩
  case round =>
    obtain ⟨m, hm1, hm3, rfl, HD, HB⟩ := hrel
    clear H1 HB1
    have m0 : (1 : Int) ≤ (m : Int) := by omega
    by_cases hlt : m ≤ k + 2
    · have hle : (m : Int) ≤ 2 + (k : Int) := by omega
      have hm : (⟨(m : Int), (m : Int) % 2, 10 * (m : Int), 0, 0⟩ : Sup).may = true := turn_may m (by omega)
      have HM := Aside0.mk hm
      have HW := Aside0.mk (show (stT (m - 1)).write 8 ((m : Int) % 2) (Sup.packed ⟨(m : Int), (m : Int) % 2, 10 * (m : Int), 0, 0⟩) = (0, stT m) from write_eq' m (by omega) hm1)
      have HP := Aside0.mk (show (pick fun k => (stT m).read 8 k) = (⟨(m : Int), (m : Int) % 2, 10 * (m : Int), 0, 0⟩, true, false) from turn_pick m (by omega) hm1)
      clear hm
      go_wp2_with fail
      refine (pack_calls ⟨(m : Int), (m : Int) % 2, 10 * (m : Int), 0, 0⟩ _).mono ?_
      rw [HM.out, pack_ok HM.out]
      rintro e w3 ⟨v3, rfl, ho3, hb3⟩
      obtain ⟨A3, c3, rfl, hc3, hC3⟩ := OB_reads ho3
      have HA3 := Aside0.mk (OB_away' ho3 rfl (by rw [packed_length]; omega) HD.out.lt)
      rw [packed_length] at hc3 hC3 ⊢
      have HC3 := Aside0.mk hC3
      have HD3 := Aside0.mk (HD.out.after hb3)
      have HB3 := Aside0.mk (below_step HB.out hb3)
      clear ho3 hC3 hb3 HD HB
      go_wp2_with fail
      refine (write_calls a 8 _ ((m : Int) % 2) _ _ _ (Sup.packed ⟨(m : Int), (m : Int) % 2, 10 * (m : Int), 0, 0⟩) _ HD3.out HC3.out (packed_byt _) HA3.out).mono ?_
      rw [HW.out]
      rintro e w4 ⟨rfl, h4, hb4⟩
      have H4 := Aside0.mk h4
      have HB4 := Aside0.mk (But.step' HB3.out hb4 HA.out)
      clear h4 hb4 HC3 HA3 HD3 HB3
      go_wp2_with fail
      refine (pick_calls a 8 (stT m) _ H4.out (by omega)).mono ?_
      rw [HP.out]
      rintro e w5 ⟨rfl, hb5⟩
      have H5 := Aside0.mk (H4.out.after hb5)
      have HB5 := Aside0.mk (below_step HB4.out hb5)
      clear hb5 H4 HB4
      unfold Sup.val
      go_wp2
      go_roundw
      case rel => exact ⟨m + 1, by omega, by omega, by go_num, ⟨by rw [Nat.add_sub_cancel]; exact H5.out.after (below_alloc (Below.refl _ _) _)⟩, ⟨below_alloc HB5.out _⟩⟩
      case measure => simp [intOf]; omega
    · obtain rfl : m = k + 3 := by omega
      have hle : ¬ (((k + 3 : Nat) : Int) ≤ 2 + (k : Int)) := by omega
      rw [show k + 3 - 1 = k + 2 from rfl] at HD
      have HOK := Aside0.mk HD.out.ok
      have hxq := or1_u8 x hx
      have HPP := Aside0.mk (rot1_pick k kn HD.out.ok)
      have HQQ := Aside0.mk (rot2_pick k kn HD.out.ok)
      have HLV := Aside0.mk (turn_live (k + 2) (by omega))
      have hi2 : 0 ≤ (k : Int) % 2 ∧ (k : Int) % 2 < 2 := by omega
      have hep : (supT (k + 1)).ep = (k : Int) + 1 := by simp [supT]
      generalize supT (k + 1) = t at *
      generalize stT (k + 2) = s0 at *
      go_wp2_with fail
      refine (within_calls _ _ _ (by omega)).mono ?_
      rintro e w3 ⟨rfl, rfl⟩
      have hwp := wi_bd at_ 64 (by omega)
      have HWP := Aside0.mk hwp
      generalize hpp : wi at_ 64 = p at *
      have HPE := Aside0.mk hpp
      clear hpp
      generalize hy : bits .or .u8 x 1 = y at *
      generalize hi : (k : Int) % 2 = i at *
      have HY := Aside0.mk hxq
      have HI := Aside0.mk hi
      have hrots : DS.rots 8 i p y = true := by simp [DS.rots, isB, hxq.2]; omega
      have HP1 := Aside0.mk (HPP.out i p y rfl hwp hxq.1 hxq.2)
      have HQ1 := Aside0.mk (fun h => HQQ.out i p y h rfl hwp hxq.1 hxq.2)
      have HR1 := Aside0.mk hrots
      have HR2 := Aside0.mk (show DS.rots 8 (1 - i) p y = true by simp [DS.rots, isB, hxq.2]; omega)
      clear hrots hxq hi hwp HPP HQQ
      go_wp2_with fail
      refine (rot_calls a 8 s0 i p y _ HD.out HY.out.1).mono ?_
      rw [HR1.out]
      rintro e w4 ⟨rfl, h4, hb4⟩
      have hlv := rot_live s0 i p y
      rw [HLV.out.1, HLV.out.2] at hlv
      have HLV1 := Aside0.mk hlv
      have HOK1 := Aside0.mk h4.ok
      have HQ2 := Aside0.mk (HQ1.out h4.ok)
      have H4 := Aside0.mk h4
      have HB4 := Aside0.mk (But.step' HB.out hb4 HA.out)
      generalize s0.rot 8 i p y = s1 at *
      clear h4 hb4 HB HD HR1 hlv HLV HQ1 HOK
      go_wp2_with fail
      refine (pick_calls a 8 s1 _ H4.out (by omega)).mono ?_
      rw [HP1.out]
      rintro e w5 ⟨rfl, hb5⟩
      have H5 := Aside0.mk (H4.out.after hb5)
      have HB5 := Aside0.mk (below_step HB4.out hb5)
      clear hb5 H4 HB4
      unfold Sup.val
      simp only [hep]
      go_upto_region 19 with (fail)
      obtain ⟨W5, hW5⟩ : ∃ W5, W5 = w5.alloc (.cells #[.int .i64 ((k : Int) + 1), .int .i64 t.gn, .int .i64 t.nx, .int .i64 t.st, .int .i64 t.sz] 66) := ⟨_, rfl⟩
      rw [← hW5]
      have H6 := Aside0.mk (show Dsk W5 a 8 s1 by rw [hW5]; exact H5.out.after (below_alloc (Below.refl _ _) _))
      have HB6 := Aside0.mk (show Below w.heap.size w W5 by rw [hW5]; exact below_alloc HB5.out _)
      clear hW5 H5 HB5
      go_wp2_with fail
      refine (within_calls _ _ _ (by omega)).mono ?_
      rintro e w6 ⟨rfl, rfl⟩
      rw [HPE.out]
      go_wp2_with fail
      rw [HI.out]
      ((with_reducible refine (rot_calls a 8 s1 (1 - i) p y _ H6.out HY.out.1).mono ?_); rw [HR2.out]; rintro e w7 ⟨rfl, h7, hb7⟩)
      have hlv := rot_live s1 (1 - i) p y
      rw [HLV1.out.1, HLV1.out.2] at hlv
      have HLV2 := Aside0.mk hlv
      have H7 := Aside0.mk h7
      have HB7 := Aside0.mk (But.step' HB6.out hb7 HA.out)
      generalize s1.rot 8 (1 - i) p y = s2 at *
      clear h7 hb7 H6 HB6 hlv HR2
      go_wp2_with fail
      ((with_reducible refine (pick_calls a 8 s2 _ H7.out (by omega)).mono ?_); rw [HQ2.out]; rintro e w8 ⟨rfl, hb8⟩)
      rw [show Sup.none.val = .agg #[.int .i64 0, .int .i64 0, .int .i64 0, .int .i64 0, .int .i64 0] from rfl]
      have HB8 := Aside0.mk (below_step HB7.out hb8)
      have H8 := Aside0.mk (H7.out.after hb8)
      clear hb8 H7 HB7
      go_upto_region 22 with (fail)
      obtain ⟨W8, hW, ht, hb, hz⟩ := sup_var w8 ⟨0, 0, 0, 0, 0⟩
      rw [hW]
      have H9 := Aside0.mk (H8.out.after hb)
      have HB9 := Aside0.mk (below_step HB8.out hb)
      clear hW ht hb hz H8 HB8
      go_wp2_with fail
      ((with_reducible refine (sector_calls 0 _ (by omega)).mono ?_); rintro e w10 ⟨v10, rfl, ho10, hb10⟩)
      obtain ⟨A10, c10, rfl, hc10, hC10⟩ := OB_reads ho10
      have HA10 := Aside0.mk (OB_away' ho10 rfl (by simp) H9.out.lt)
      rw [List.length_replicate] at hc10 hC10 ⊢
      have HC10 := Aside0.mk hC10
      have H10 := Aside0.mk (H9.out.after hb10)
      have HB10 := Aside0.mk (below_step HB9.out hb10)
      have hw0 := write_0 s2 H9.out.ok HLV2.out.1 HLV2.out.2 (List.replicate 64 0) (by simp)
      have HW0 := Aside0.mk hw0
      clear hw0 ho10 hC10 hb10 H9 HB9
      go_wp2_with fail
      ((with_reducible refine (write_calls a 8 s2 0 A10 64 c10 (List.replicate 64 0) _ H10.out HC10.out (byt_rep _ _ (by omega)) HA10.out).mono ?_); rw [HW0.out.1]; rintro e w11 ⟨rfl, h11, hb11⟩)
      have hr0 := HW0.out.2
      have H11 := Aside0.mk h11
      have HB11 := Aside0.mk (But.step' HB10.out hb11 HA.out)
      have HR0 := Aside0.mk hr0
      generalize (s2.write 8 0 (List.replicate 64 0)).2 = s3 at *
      clear hr0 h11 hb11 H10 HB10 HC10 HA10 HW0
      go_wp2_with fail
      ((with_reducible refine (read_calls a 8 s3 0 _ H11.out).mono ?_); rw [HR0.out]; rintro e w12 ⟨v12, rfl, ho12, hb12⟩)
      obtain ⟨A12, c12, rfl, hc12, hC12⟩ := OB_reads ho12
      rw [List.length_replicate] at hc12 hC12 ⊢
      have HC12 := Aside0.mk hC12
      have HB12 := Aside0.mk (below_step HB11.out hb12)
      clear ho12 hC12 hb12 H11 HB11
      go_wp2_with fail
      ((with_reducible refine (sector_calls 0 _ (by omega)).mono ?_); rintro e w13 ⟨v13, rfl, ho13, hb13⟩)
      obtain ⟨A13, c13, rfl, hc13, hC13⟩ := OB_reads ho13
      rw [List.length_replicate] at hc13 hC13 ⊢
      have HC13 := Aside0.mk hC13
      have HC14 := Aside0.mk (Kd.C_below HC12.out hb13)
      have HB13 := Aside0.mk (below_step HB12.out hb13)
      clear ho13 hC13 hb13 HC12 HB12
      go_wp2_with fail
      ((with_reducible refine (sameb_calls A12 64 c12 (List.replicate 64 0) A13 64 c13 (List.replicate 64 0) _ HC14.out HC13.out).mono ?_); rintro e w14 ⟨rfl, ⟨m14, rfl⟩⟩)
      have HB14 := Aside0.mk (pw_below_drewN HB13.out m14)
      clear HC13 HC14 HB13
      generalize w13.drewN m14 = w14 at *
      go_wp2_with fail
      ((with_reducible refine (wakes18_calls _).mono ?_); rintro e w15 ⟨rfl, hb15⟩)
      go_wp2
      go_ret
      exact ⟨rfl, below_step HB14.out hb15⟩
theorem superTurns_law (n at_ x : Int) (w : World) (h1 : (Lit.int .i64 n).wf = true) (h2 : (Lit.int .i64 at_).wf = true) (h3 : (Lit.int .u8 x).wf = true) :
    Calls Try.prog 9 #[.int .i64 n, .int .i64 at_, .int .u8 x] w fun e w' => e = .returned (.bool true) ∧ Below w.heap.size w w' :=
  superTurns_calls n at_ x w (by have := bounds_u8 h3; omega)
end Go.Proofs.Ytodhgohbcjnjfaa
