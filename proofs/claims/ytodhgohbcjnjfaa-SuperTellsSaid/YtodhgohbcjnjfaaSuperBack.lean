/- SuperBack: what the law's function returns. -/
import Derived.Test.YtodhgohbcjnjfaaSuperWakes
import Derived.Test.YtodhgohbcjnjfaaSuperLaw
import Derived.Test.YtodhgohbcjnjfaaCopyb
namespace Go.Proofs.Ytodhgohbcjnjfaa
open Go.RowKit Go.Proofs.YtodhgohbcjnjfaaW.PrintWords Go.Proofs.YtodhgohbcjnjfaaW.PrintLast Go.Proofs.YtodhgohbcjnjfaaW.PrintMore
set_option linter.unusedVariables false
set_option linter.unusedSimpArgs false
set_option maxRecDepth 100000
theorem unSup_packed (s : Sup) (h : s.may = true) : unSup s.packed = s := by
  unfold unSup
  rw [if_pos (isSup_packed s h), supOf_packed s h]
theorem unSup_no {l : List Int} (h : isSup l = false) : unSup l = ⟨0, 0, 0, 0, 0⟩ := by
  unfold unSup
  rw [h]
  rfl
abbrev SupB (w : World) (g : Nat) (s : Sup) : Prop := w.heap[g]? = some (.cells #[.int .i64 s.ep, .int .i64 s.gn, .int .i64 s.nx, .int .i64 s.st, .int .i64 s.sz] 66 (0, 0))
theorem sup_var (w : World) (s : Sup) : ∃ W, w.alloc (.cells #[.int .i64 s.ep, .int .i64 s.gn, .int .i64 s.nx, .int .i64 s.st, .int .i64 s.sz] 66) = W ∧ SupB W w.heap.size s ∧ Below w.heap.size w W ∧ W.heap.size = w.heap.size + 1 :=
  ⟨_, rfl, heap_alloc_new w _, below_alloc (Below.refl _ _) _, by simp⟩
theorem SupB.after {w w1 : World} {g : Nat} {s : Sup} (h : SupB w g s) (hb : Below w.heap.size w w1) : SupB w1 g s := (hb.block g (blk_lt h)).trans h
theorem SupB.after' {w w1 : World} {g : Nat} {s : Sup} (h : SupB w g s) (hb : Below w.heap.size w w1) : SupB w1 g s := h.after hb
set_option maxHeartbeats 8000000 in
theorem superBack_calls (A : Option Addr) (nl c : Nat) (l : List Int) (at_ x : Int) (w : World) (hr : RI w A nl l) (hx : 0 ≤ x ∧ x < 256) :
    Calls Try.prog 8 #[.slice A nl c, .int .i64 at_, .int .u8 x] w fun e w' => e = .returned (.bool true) ∧ Below w.heap.size w w' := by
  have HM := Aside0.mk (supL_may l)
  go_enter Try.func8, Try.ntmps8
  go_wp2_with fail
  refine (supof_calls A nl c l 0 w hr).mono ?_
  rw [supOfL_0]
  rintro e w1 ⟨rfl, hb1⟩
  have HB1 := Aside0.mk hb1
  clear hr hb1
  generalize supL l = s at *
  unfold Sup.val
  go_upto_region 2 with (fail)
  obtain ⟨W, hW, hs, hb, hz⟩ := sup_var w1 s
  rw [hW]
  clear hW
  have HS := Aside0.mk hs
  have HBW := Aside0.mk (below_step HB1.out hb)
  have x0 := blk_cell hs 0
  have x1 := blk_cell hs 1
  have x2 := blk_cell hs 2
  have x3 := blk_cell hs 3
  have x4 := blk_cell hs 4
  clear hs hb hz HB1
  go_wp2_with fail
  refine (pack_calls s _).mono ?_
  rw [HM.out, pack_ok HM.out]
  rintro e w2 ⟨v2, rfl, ho2, hb2⟩
  obtain ⟨A2, c2, rfl, hc2, hC2⟩ := OB_reads ho2
  rw [packed_length] at hc2 hC2 ⊢
  have HC2 := Aside0.mk hC2
  have HS2 := Aside0.mk (HS.out.after hb2)
  have HB2 := Aside0.mk (below_step HBW.out hb2)
  clear ho2 hC2 hb2 HS HBW x0 x1 x2 x3 x4
  go_wp2_with fail
  refine (unpack_calls A2 64 c2 s.packed _ HC2.out hc2 (packed_byt s)).mono ?_
  rw [isSup_packed s HM.out, unSup_packed s HM.out]
  unfold Sup.val
  rintro e w3 ⟨rfl, hb3⟩
  have HC3 := Aside0.mk (Kd.C_below HC2.out hb3)
  have HS3 := Aside0.mk (HS2.out.after hb3)
  have HB3 := Aside0.mk (below_step HB2.out hb3)
  clear hb3 HC2 HS2 HB2
  go_upto_region 6 with (fail)
  obtain ⟨W3, hW, ht, hb, hz⟩ := sup_var w3 s
  rw [hW]
  clear hW
  have HT := Aside0.mk ht
  have HS4 := Aside0.mk (HS3.out.after hb)
  have HC4 := Aside0.mk (Kd.C_below HC3.out hb)
  have HB4 := Aside0.mk (below_step HB3.out hb)
  clear ht hb hz HS3 HC3 HB3
  go_wp2_with fail
  refine (copyb_calls A2 64 c2 s.packed _ HC4.out (by omega)).mono ?_
  rintro e w5 ⟨v5, rfl, ho5, hb5⟩
  obtain ⟨g5, c5, rfl, hg5, hgl5, _⟩ := Kd.R_form ho5 (by rw [packed_length]; omega)
  rw [packed_length] at ho5 ⊢
  have HO5 := Aside0.mk ho5
  have HBX := Aside0.mk hb5
  have n2 : w1.heap.size < W3.heap.size := by have := blk_lt HS4.out; omega
  have n3 : w3.heap.size < W3.heap.size := blk_lt HT.out
  clear ho5 hb5
  go_wp2_with fail
  refine (within_calls _ _ _ (by omega)).mono ?_
  rintro e w6 ⟨rfl, rfl⟩
  have hwi := wi_bd at_ 64 (by omega)
  obtain ⟨k, hk⟩ : ∃ k : Nat, wi at_ 64 = (k : Int) := ⟨(wi at_ 64).toNat, by omega⟩
  rw [hk] at hwi ⊢
  clear hk
  obtain ⟨k0, k1⟩ := hwi
  have hkl : k < 64 := by omega
  obtain ⟨hcell, hfz⟩ := OB_at HO5.out k hkl
  have HPUT := Aside0.mk (fun z => OB_put HO5.out k z)
  have hu := (packed_byt s).at_ k (by rw [packed_length]; exact hkl)
  have HX := Aside0.mk (xor8 (rd s.packed k) x hu hx)
  have HI := Aside0.mk (fun z hz => isSup_set' s HM.out k hkl z hz)
  have HY := Aside0.mk (fun (z : Int) (hz : 0 ≤ z ∧ z < 256) => show Byt (s.packed.set k z) from fun y hy => by
    rcases List.mem_or_eq_of_mem_set hy with hy | rfl
    · exact packed_byt s y hy
    · exact hz)
  generalize rd s.packed k = u at *
  clear hu
  go_upto_region 8 with (fail)
  obtain ⟨W6, hW⟩ : ∃ W6, W6 = w5.setCell ⟨g5, k, none⟩ (.int .u8 (bits .xor .u8 u x)) := ⟨_, rfl⟩
  rw [← hW]
  have hbs : Below W3.heap.size w5 W6 := by rw [hW]; exact (Below.refl _ _).setCell (p := ⟨g5, k, none⟩) hg5 _
  have ho6 := HPUT.out (bits .xor .u8 u x)
  rw [← hW] at ho6
  clear hW HPUT hcell hfz
  have HO6 := Aside0.mk (Kd.R_reads' ho6).2.2
  have hl6 : (s.packed.set k (bits .xor .u8 u x)).length = 64 := by rw [List.length_set, packed_length]
  have hc6 : 64 ≤ c5 := (Kd.R_reads' HO5.out).2.1
  have HB6 := Aside0.mk (show Below W3.heap.size W3 W6 from HBX.out.trans hbs)
  rw [hl6] at HO6
  clear hbs ho6 HO5 HBX hl6
  have hY6 := HY.out _ HX.out.1
  have hI6 := HI.out _ HX.out.1
  have hq6 : decide (bits .xor .u8 u x = u) = (x == 0) := by rw [Bool.eq_iff_iff]; simp [HX.out.2]
  rw [hq6] at hI6
  have HI6 := Aside0.mk hI6
  clear HX HI HY hI6 hq6
  generalize s.packed.set k (bits .xor .u8 u x) = l6 at *
  go_wp2_with fail
  refine (unpack_calls _ 64 c5 l6 _ HO6.out hc6 hY6).mono ?_
  rintro e w7 ⟨rfl, hb7⟩
  have HB7 := Aside0.mk (show Below W3.heap.size W3 w7 from below_step HB6.out hb7)
  have HN := Aside0.mk (fun h => unSup_no (l := l6) h)
  generalize unSup l6 = t at *
  unfold Sup.val
  clear HB6 hb7 hY6 HO6
  go_upto_region 9 with (fail)
  obtain ⟨W7, hW, ht, hb, hz⟩ := sup_var w7 t
  rw [hW]
  clear hW
  have HT7 := Aside0.mk ht
  have HB8 := Aside0.mk (show Below W3.heap.size W3 W7 from below_step HB7.out hb)
  have n4 : W3.heap.size ≤ w7.heap.size := HB7.out.size
  clear ht hb hz HB7
  go_wp2_with fail
  refine (copyb_calls A2 64 c2 s.packed _ (Kd.C_below HC4.out HB8.out) (by omega)).mono ?_
  rintro e w9 ⟨v9, rfl, ho9, hb9⟩
  have HBB := Aside0.mk hb9
  have HO9 := Aside0.mk ho9
  have n5 : w7.heap.size < W7.heap.size := blk_lt HT7.out
  clear ho9 hb9
  go_wp2_with (at_builtin; go_must (refine wp_appendb (w0 := W7) (base := W7.heap.size) v9 s.packed [0] rfl (.tmp 55) (.tmp 56) rfl rfl rfl HO9.out HBB.out HBB.out.size (by rw [packed_length]; simp) ?_); intro v10 w10 ho10 hb10 _)
  obtain ⟨A10, c10, rfl, hc10, hC10⟩ := OB_reads ho10
  have hno : isSup (s.packed ++ [0]) = false := isSup_len _ (by rw [List.length_append, packed_length]; simp)
  have hb9' := HBB.out
  have HT10 := Aside0.mk (HT7.out.after hb10)
  have HB10 := Aside0.mk (show Below W3.heap.size W3 w10 from below_step HB8.out hb10)
  have HC10 := Aside0.mk hC10
  clear ho10 hb10 hb9' hC10 HO9 HBB HT7 HB8
  refine (unpack_calls A10 _ c10 (s.packed ++ [0]) _ HC10.out hc10 ((packed_byt s).append (fun y hy => by simp at hy; omega))).mono ?_
  rw [hno, unSup_no hno]
  unfold Sup.val
  rintro e w11 ⟨rfl, hb11⟩
  have HT11 := Aside0.mk (HT10.out.after hb11)
  have HB11 := Aside0.mk (show Below W3.heap.size W3 w11 from below_step HB10.out hb11)
  have n6 : w7.heap.size < w11.heap.size := blk_lt HT11.out
  clear hno hb11 HT10 HB10 HC10 hc10
  go_upto_region 10 with (fail)
  obtain ⟨W11, hW, ht, hb, hz⟩ := sup_var w11 ⟨0, 0, 0, 0, 0⟩
  rw [hW]
  clear hW
  have HB12 := Aside0.mk (show Below W3.heap.size W3 W11 from below_step HB11.out hb)
  have ht7 := HT11.out.after hb
  have hs7 := HS4.out.after' HB12.out
  have hr7 := HT.out.after' HB12.out
  have a0 := blk_cell hs7 0
  have a1 := blk_cell hs7 1
  have a2 := blk_cell hs7 2
  have a3 := blk_cell hs7 3
  have a4 := blk_cell hs7 4
  have b0 := blk_cell hr7 0
  have b1 := blk_cell hr7 1
  have b2 := blk_cell hr7 2
  have b3 := blk_cell hr7 3
  have b4 := blk_cell hr7 4
  have d0 := blk_cell ht7 0
  have d1 := blk_cell ht7 1
  have d2 := blk_cell ht7 2
  have d3 := blk_cell ht7 3
  have d4 := blk_cell ht7 4
  clear ht hb hz hs7 hr7 ht7 HS4 HT HT11 HB11 HC4
  generalize hq : isSup l6 = q at *
  clear hq
  cases q
  · have ht := HN.out rfl
    subst ht
    have hx0 : (x == 0) = false := HI6.out.symm
    clear HN HI6
    go_wp2_with fail
    refine (wakes18_calls _).mono ?_
    rintro e w12 ⟨rfl, hb12⟩
    go_wp2
    go_ret
    exact ⟨rfl, below_step (below_step HB4.out HB12.out) hb12⟩
  · have hx0 : (x == 0) = true := HI6.out.symm
    clear HN HI6
    go_wp2_with fail
    refine (wakes18_calls _).mono ?_
    rintro e w12 ⟨rfl, hb12⟩
    go_wp2
    go_ret
    exact ⟨rfl, below_step (below_step HB4.out HB12.out) hb12⟩
theorem superBack_law (A : Option Addr) (c : Nat) (l : List Int) (at_ x : Int) (w : World) (hr : Kd.C (Kd.int .i64) w A l.length l) (hc : l.length ≤ c) (hy : l.length * 8 ≤ 140737488351232) (hw : ∀ x ∈ l, (Lit.int .i64 x).wf = true) (h1 : (Lit.int .i64 at_).wf = true) (h2 : (Lit.int .u8 x).wf = true) :
    Calls Try.prog 8 #[.slice A l.length c, .int .i64 at_, .int .u8 x] w fun e w' => e = .returned (.bool true) ∧ Below w.heap.size w w' :=
  superBack_calls A l.length c l at_ x w hr (by have := bounds_u8 h2; omega)
end Go.Proofs.Ytodhgohbcjnjfaa
