/- super's at and Unpack: what they tell of any bytes. -/
import Derived.Test.YtodhgohbcjnjfaaSuperPack
import Derived.Test.YtodhgohbcjnjfaaEqual
namespace Go.Proofs.Ytodhgohbcjnjfaa
open Go.RowKit Go.Proofs.YtodhgohbcjnjfaaW.PrintWords Go.Proofs.YtodhgohbcjnjfaaW.PrintLast Go.Proofs.YtodhgohbcjnjfaaW.PrintMore
set_option linter.unusedVariables false
set_option linter.unusedSimpArgs false
set_option maxRecDepth 100000
theorem num4_snoc (l : List Int) (c : Int) : num4 (l ++ [c]) = num4 l * 256 + c := by
  unfold num4
  rw [List.foldl_append]
  rfl
theorem num4_bd (l : List Int) (h : Byt l) : ∀ k, k ≤ 4 → 0 ≤ num4 (l.take k) ∧ num4 (l.take k) < 256 ^ k := by
  intro k
  induction k with
  | zero => intro _; simp [num4]
  | succ k ih =>
    intro hk
    have h1 := ih (by omega)
    by_cases hl : k < l.length
    · have hb := h.at_ k hl
      rw [take_snocI l k hl, num4_snoc, Int.pow_succ]
      constructor
      · omega
      · have : num4 (l.take k) + 1 ≤ 256 ^ k := by omega
        have h3 := Int.mul_le_mul_of_nonneg_right this (show (0 : Int) ≤ 256 by omega)
        omega
    · rw [List.take_of_length_le (by omega), ← List.take_of_length_le (show l.length ≤ k by omega)]
      have h4 : (256 : Int) ^ k ≤ 256 ^ (k + 1) := by
        rw [Int.pow_succ]
        have : (0 : Int) < 256 ^ k := Int.pow_pos (by omega)
        omega
      omega
set_option maxHeartbeats 2000000 in
theorem at_calls (A : Option Addr) (nl c : Nat) (l : List Int) (p : Nat) (pi : Int) (hp : pi = p) (w : World) (hr : RB w A nl l) (hc : nl ≤ c) (hb : Byt l) (h4 : p + 4 ≤ nl) (hs : nl ≤ 1000) :
    Calls Try.prog 88 #[.slice A nl c, .int .i64 pi] w fun e w' => e = .returned (.int .i64 (atB l p)) ∧ w = w' := by
  subst hp
  obtain rfl : l.length = nl := Kd.C_len hr
  have hcut : ∃ A' c', (∀ W : World, (Instr.slice 24 (.slice A l.length c) (some (.int .i64 (p : Int))) (some (.int .i64 ((p : Int) + 4))) none).run Try.prog W = .ok (.slice A' 4 c') W) ∧ RB w A' 4 ((l.drop p).take 4) := by
    obtain ⟨i0, hi0, hz⟩ := Option.map_eq_some_iff.1 infoB
    simp only [Prod.mk.injEq] at hz
    obtain ⟨A', h1, h2, h3⟩ := print_mid_of (P := Try.prog) (Value.int .u8) (0 : Int) 24 5 .i64 .i64 Try.underlying24 hi0 hz.2.1 A c l (p : Int) ((p : Int) + 4) (by omega) (by omega) (by omega) hc
    have e : ((l.take ((p : Int) + 4).toNat).drop (p : Int).toNat) = (l.drop p).take 4 := by
      rw [show ((p : Int) + 4).toNat = p + 4 from by omega, Int.toNat_natCast, List.drop_take, Nat.add_sub_cancel_left]
    have hl : ((l.drop p).take 4).length = 4 := by rw [List.length_take, List.length_drop]; omega
    rw [e, hl] at h1 h2
    exact ⟨A', _, h1, Kd.C_of_reads (h2 w (Kd.reads_of_C hr))⟩
  obtain ⟨A', c', hrun, hrd⟩ := hcut
  have hl : ((l.drop p).take 4).length = 4 := by rw [List.length_take, List.length_drop]; omega
  have hbt : Byt ((l.drop p).take 4) := (hb.drop p).take 4
  unfold atB
  generalize (l.drop p).take 4 = m at *
  have HRD := Aside0.mk hrd
  have HY := Aside0.mk hbt
  have HL := Aside0.mk hl
  have hb4 : (p : Int) + 4 ≤ 1000 := by omega
  clear hr hc hb h4 hrd hbt hl
  go_enter Try.func88, Try.ntmps88
  go_wp2
  go_loop [5, 14] (fun n i => ∃ k : Nat, k ≤ 4 ∧ i = .int .i64 k ∧ n = .int .i64 (num4 (m.take k))) (fun _ i => 4 - (intOf i).toNat)
  case atStart => exact ⟨0, by omega, rfl, rfl⟩
  case round =>
    obtain ⟨k, hk, rfl, rfl⟩ := hrel
    by_cases hlt : k < 4
    · obtain ⟨ad, e, hx⟩ := Kd.at_int HRD.out (k : Int) (by omega) (by omega)
      cases e
      simp only [Int.toNat_natCast] at hx
      have hbd := num4_bd m HY.out k hk
      have hbd2 : num4 (m.take k) < 16777216 := by
        have : (256 : Int) ^ k ≤ 256 ^ 3 := by
          match k, hlt with
          | 0, _ => decide
          | 1, _ => decide
          | 2, _ => decide
          | 3, _ => decide
        omega
      have hb0 := hbd.1
      have hby := HY.out.at_ k (by rw [HL.out]; exact hlt)
      have HS := Aside0.mk (take_snocI m k (by rw [HL.out]; exact hlt))
      have HO := Aside0.mk (or_i64 8 (num4 (m.take k) * 256) (rd m k) (by omega) (by omega) (by omega) hby.1 (by simpa using hby.2) (by omega))
      have k0 : (0 : Int) ≤ (k : Int) := by omega
      have k1 : (k : Int) < 4 := by omega
      clear hbd
      generalize hq : num4 (m.take k) = q at *
      have HQ := Aside0.mk hq
      clear hq
      generalize rd m k = x at *
      go_wp2
      go_round
      case rel => exact ⟨k + 1, by omega, by go_num, by rw [HS.out, num4_snoc, HQ.out, HO.out]⟩
      case measure => simp [intOf]; omega
    · obtain rfl : k = 4 := by omega
      go_wp2
      go_ret
      exact ⟨by rw [List.take_of_length_le (by rw [HL.out]; omega)]; rfl, rfl⟩
theorem blk_set5 {w : World} {g : Nat} {t : TypeId} {a0 a1 a2 a3 a4 : Value} (h : w.heap[g]? = some (.cells #[a0, a1, a2, a3, a4] t (0, 0))) (v0 v1 v2 v3 v4 : Value) :
    (((((w.setCell ⟨g, 0, none⟩ v0).setCell ⟨g, 1, none⟩ v1).setCell ⟨g, 2, none⟩ v2).setCell ⟨g, 3, none⟩ v3).setCell ⟨g, 4, none⟩ v4).heap[g]? = some (.cells #[v0, v1, v2, v3, v4] t (0, 0)) :=
  blk_set (blk_set (blk_set (blk_set (blk_set h 0 v0) 1 v1) 2 v2) 3 v3) 4 v4
theorem below_set5 {w W : World} {B g : Nat} (hb : Below B w W) (hg : B ≤ g) (v0 v1 v2 v3 v4 : Value) :
    Below B w (((((W.setCell ⟨g, 0, none⟩ v0).setCell ⟨g, 1, none⟩ v1).setCell ⟨g, 2, none⟩ v2).setCell ⟨g, 3, none⟩ v3).setCell ⟨g, 4, none⟩ v4) :=
  ((((hb.setCell hg v0).setCell hg v1).setCell hg v2).setCell hg v3).setCell hg v4
/-- A Super that is none. -/
def Sup.none : Sup := ⟨0, 0, 0, 0, 0⟩
set_option maxHeartbeats 4000000 in
theorem unpack_calls (A : Option Addr) (nl c : Nat) (l : List Int) (w : World) (hr : RB w A nl l) (hc : nl ≤ c) (hb : Byt l) :
    Calls Try.prog 31 #[.slice A nl c] w fun e w' => e = .returned (.tuple #[(unSup l).val, .bool (isSup l)]) ∧ Below w.heap.size w w' := by
  obtain rfl : l.length = nl := Kd.C_len hr
  have hmax := Kd.C_max hr
  by_cases h64 : l.length = 64
  · have t1 : decide ((l.length : Int) = 64) = true := by simp [h64]
    rw [h64] at hr hc ⊢
    have HR := Aside0.mk hr
    have HY := Aside0.mk hb
    have H64 := Aside0.mk h64
    have HU := Aside0.mk (show unSup l = if isSup l = true then supOf l else ⟨0, 0, 0, 0, 0⟩ from rfl)
    have HI := Aside0.mk (show isSup l = ((supOf l).may && decide ((supOf l).packed = l)) by unfold isSup; rw [h64]; simp)
    clear hr hb h64 t1 hmax
    go_enter Try.func31, Try.ntmps31
    go_wp2_with fail
    refine (at_calls A 64 c l 8 8 rfl _ (Kd.C_below HR.out (below_alloc (Below.refl _ _) _)) hc HY.out (by omega) (by omega)).mono ?_
    rintro e w1 ⟨rfl, rfl⟩
    go_wp2_with fail
    refine (at_calls A 64 c l 12 12 rfl _ (Kd.C_below HR.out (below_alloc (Below.refl _ _) _)) hc HY.out (by omega) (by omega)).mono ?_
    rintro e w1 ⟨rfl, rfl⟩
    go_wp2_with fail
    refine (at_calls A 64 c l 16 16 rfl _ (Kd.C_below HR.out (below_alloc (Below.refl _ _) _)) hc HY.out (by omega) (by omega)).mono ?_
    rintro e w1 ⟨rfl, rfl⟩
    go_wp2_with fail
    refine (at_calls A 64 c l 20 20 rfl _ (Kd.C_below HR.out (below_alloc (Below.refl _ _) _)) hc HY.out (by omega) (by omega)).mono ?_
    rintro e w1 ⟨rfl, rfl⟩
    go_wp2_with fail
    refine (at_calls A 64 c l 24 24 rfl _ (Kd.C_below HR.out (below_alloc (Below.refl _ _) _)) hc HY.out (by omega) (by omega)).mono ?_
    rintro e w1 ⟨rfl, rfl⟩
    go_wp2_with fail
    obtain ⟨W, hW⟩ : ∃ W, W = ((w.alloc (.cells #[.int .i64 0, .int .i64 0, .int .i64 0, .int .i64 0, .int .i64 0] 66)).alloc (.cells #[.int .i64 (atB l 8), .int .i64 (atB l 12), .int .i64 (atB l 16), .int .i64 (atB l 20), .int .i64 (atB l 24)] 66)) := ⟨_, rfl⟩
    rw [← hW]
    have hs : W.heap.size = w.heap.size + 2 := by rw [hW]; simp
    have hbW : Below w.heap.size w W := by rw [hW]; exact below_alloc (below_alloc (Below.refl _ _) _) _
    have hz : W.heap[w.heap.size]? = some (.cells #[.int .i64 0, .int .i64 0, .int .i64 0, .int .i64 0, .int .i64 0] 66 (0, 0)) := by rw [hW, Below.heap_alloc _ _ _ (by simp)]; exact heap_alloc_new w _
    have hx : W.heap[w.heap.size + 1]? = some (.cells #[.int .i64 (atB l 8), .int .i64 (atB l 12), .int .i64 (atB l 16), .int .i64 (atB l 20), .int .i64 (atB l 24)] 66 (0, 0)) := by
      rw [hW]
      have h := heap_alloc_new (w.alloc (.cells #[.int .i64 0, .int .i64 0, .int .i64 0, .int .i64 0, .int .i64 0] 66)) (.cells #[.int .i64 (atB l 8), .int .i64 (atB l 12), .int .i64 (atB l 16), .int .i64 (atB l 20), .int .i64 (atB l 24)] 66)
      rw [show (w.alloc (.cells #[.int .i64 0, .int .i64 0, .int .i64 0, .int .i64 0, .int .i64 0] 66)).heap.size = w.heap.size + 1 from by simp] at h
      exact h
    clear hW
    refine (pack_calls (supOf l) _).mono ?_
    rintro e w2 ⟨v2, rfl, ho2, hb2⟩
    have hs2 := hb2.size
    have hz2 := (hb2.block w.heap.size (by omega)).trans hz
    have hx2 := (hb2.block (w.heap.size + 1) (by omega)).trans hx
    have HB2 := Aside0.mk (show Below w.heap.size w w2 from below_step hbW hb2)
    have HR2 := Aside0.mk (Kd.C_below HR.out HB2.out)
    have z0 := blk_cell hz2 0
    have z1 := blk_cell hz2 1
    have z2 := blk_cell hz2 2
    have z3 := blk_cell hz2 3
    have z4 := blk_cell hz2 4
    have HZ2 := Aside0.mk hz2
    have f0 := blk_frozen hz2 0
    have f1 := blk_frozen hz2 1
    have f2 := blk_frozen hz2 2
    have f3 := blk_frozen hz2 3
    have f4 := blk_frozen hz2 4
    have x0 := blk_cell hx2 0
    have x1 := blk_cell hx2 1
    have x2 := blk_cell hx2 2
    have x3 := blk_cell hx2 3
    have x4 := blk_cell hx2 4
    obtain ⟨A2, c2, rfl, hc2, hC2⟩ := OB_reads ho2
    have HC2 := Aside0.mk hC2
    have HP := Aside0.mk (fun (h : (supOf l).may = true) => pack_ok (s := supOf l) h)
    have hg1 : w.heap.size < w2.heap.size := by omega
    clear hbW hz hx hs hb2 ho2 hC2 hs2 hz2 hx2
    generalize hm : (supOf l).may = m at *
    generalize (supOf l).pack = pk at *
    have HM := Aside0.mk hm
    clear hm
    cases m
    · go_wp2
      obtain ⟨W3, hW3⟩ : ∃ W3, W3 = (((((w2.setCell ⟨w.heap.size, 0, none⟩ (.int .i64 0)).setCell ⟨w.heap.size, 1, none⟩ (.int .i64 0)).setCell ⟨w.heap.size, 2, none⟩ (.int .i64 0)).setCell ⟨w.heap.size, 3, none⟩ (.int .i64 0)).setCell ⟨w.heap.size, 4, none⟩ (.int .i64 0)) := ⟨_, rfl⟩
      rw [← hW3]
      have h5 := blk_set5 HZ2.out (.int .i64 0) (.int .i64 0) (.int .i64 0) (.int .i64 0) (.int .i64 0)
      rw [← hW3] at h5
      have HB5 := Aside0.mk (below_set5 HB2.out (Nat.le_refl _) (.int .i64 0) (.int .i64 0) (.int .i64 0) (.int .i64 0) (.int .i64 0))
      rw [← hW3] at HB5
      clear hW3
      have e0 := blk_cell h5 0
      have e1 := blk_cell h5 1
      have e2 := blk_cell h5 2
      have e3 := blk_cell h5 3
      have e4 := blk_cell h5 4
      refine bodyPost_ret (v := .tuple #[.agg #[.int .i64 0, .int .i64 0, .int .i64 0, .int .i64 0, .int .i64 0], .bool false]) (by simp [results, Try.results31, go_sem, e0, e1, e2, e3, e4]) rfl ⟨?_, HB5.out⟩
      have hi : isSup l = false := by rw [HI.out]; rfl
      rw [HU.out, hi]
      rfl
    · go_wp2_with fail
      have HPK := Aside0.mk (HP.out trivial)
      refine (equal_calls _ _ _ pk _ 64 _ l _ HC2.out HR2.out (by rw [HPK.out]; exact packed_byt _) HY.out).mono ?_
      rintro e w3 ⟨rfl, rfl⟩
      generalize hq : decide (pk = l) = q
      have HQ := Aside0.mk hq
      clear hq
      cases q
      · go_wp2
        obtain ⟨W3, hW3⟩ : ∃ W3, W3 = (((((w2.setCell ⟨w.heap.size, 0, none⟩ (.int .i64 0)).setCell ⟨w.heap.size, 1, none⟩ (.int .i64 0)).setCell ⟨w.heap.size, 2, none⟩ (.int .i64 0)).setCell ⟨w.heap.size, 3, none⟩ (.int .i64 0)).setCell ⟨w.heap.size, 4, none⟩ (.int .i64 0)) := ⟨_, rfl⟩
        rw [← hW3]
        have h5 := blk_set5 HZ2.out (.int .i64 0) (.int .i64 0) (.int .i64 0) (.int .i64 0) (.int .i64 0)
        rw [← hW3] at h5
        have HB5 := Aside0.mk (below_set5 HB2.out (Nat.le_refl _) (.int .i64 0) (.int .i64 0) (.int .i64 0) (.int .i64 0) (.int .i64 0))
        rw [← hW3] at HB5
        clear hW3
        have e0 := blk_cell h5 0
        have e1 := blk_cell h5 1
        have e2 := blk_cell h5 2
        have e3 := blk_cell h5 3
        have e4 := blk_cell h5 4
        refine bodyPost_ret (v := .tuple #[.agg #[.int .i64 0, .int .i64 0, .int .i64 0, .int .i64 0, .int .i64 0], .bool false]) (by simp [results, Try.results31, go_sem, e0, e1, e2, e3, e4]) rfl ⟨?_, HB5.out⟩
        have hi : isSup l = false := by rw [HI.out, ← HPK.out]; exact HQ.out
        rw [HU.out, hi]
        rfl
      · go_wp2
        obtain ⟨W3, hW3⟩ : ∃ W3, W3 = (((((w2.setCell ⟨w.heap.size, 0, none⟩ (.int .i64 (atB l 8))).setCell ⟨w.heap.size, 1, none⟩ (.int .i64 (atB l 12))).setCell ⟨w.heap.size, 2, none⟩ (.int .i64 (atB l 16))).setCell ⟨w.heap.size, 3, none⟩ (.int .i64 (atB l 20))).setCell ⟨w.heap.size, 4, none⟩ (.int .i64 (atB l 24))) := ⟨_, rfl⟩
        rw [← hW3]
        have h5 := blk_set5 HZ2.out (.int .i64 (atB l 8)) (.int .i64 (atB l 12)) (.int .i64 (atB l 16)) (.int .i64 (atB l 20)) (.int .i64 (atB l 24))
        rw [← hW3] at h5
        have HB5 := Aside0.mk (below_set5 HB2.out (Nat.le_refl _) (.int .i64 (atB l 8)) (.int .i64 (atB l 12)) (.int .i64 (atB l 16)) (.int .i64 (atB l 20)) (.int .i64 (atB l 24)))
        rw [← hW3] at HB5
        clear hW3
        have e0 := blk_cell h5 0
        have e1 := blk_cell h5 1
        have e2 := blk_cell h5 2
        have e3 := blk_cell h5 3
        have e4 := blk_cell h5 4
        refine bodyPost_ret (v := .tuple #[.agg #[.int .i64 (atB l 8), .int .i64 (atB l 12), .int .i64 (atB l 16), .int .i64 (atB l 20), .int .i64 (atB l 24)], .bool true]) (by simp [results, Try.results31, go_sem, e0, e1, e2, e3, e4]) rfl ⟨?_, HB5.out⟩
        have hi : isSup l = true := by rw [HI.out, ← HPK.out]; exact HQ.out
        rw [HU.out, hi]
        rfl
  · have t1 : decide ((l.length : Int) = 64) = false := by simp; omega
    have t2 : ((l.length : Int) != 64) = true := by simp; omega
    have HI := Aside0.mk (isSup_len l h64)
    have hz := heap_alloc_new w (.cells #[.int .i64 0, .int .i64 0, .int .i64 0, .int .i64 0, .int .i64 0] 66)
    have HZ2 := Aside0.mk hz
    have HB2 := Aside0.mk (below_alloc (Below.refl _ w) (.cells #[.int .i64 0, .int .i64 0, .int .i64 0, .int .i64 0, .int .i64 0] 66))
    clear hr hb hz h64
    go_enter Try.func31, Try.ntmps31
    go_wp2
    have e0 := blk_cell HZ2.out 0
    have e1 := blk_cell HZ2.out 1
    have e2 := blk_cell HZ2.out 2
    have e3 := blk_cell HZ2.out 3
    have e4 := blk_cell HZ2.out 4
    refine bodyPost_ret (v := .tuple #[.agg #[.int .i64 0, .int .i64 0, .int .i64 0, .int .i64 0, .int .i64 0], .bool false]) (by simp [results, Try.results31, go_sem, e0, e1, e2, e3, e4]) rfl ⟨?_, HB2.out⟩
    unfold unSup
    rw [HI.out]
    rfl
end Go.Proofs.Ytodhgohbcjnjfaa
