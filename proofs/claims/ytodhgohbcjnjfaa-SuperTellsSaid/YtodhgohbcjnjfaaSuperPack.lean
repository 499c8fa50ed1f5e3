/- super's numbers and Pack: what they make. -/
import Derived.Test.YtodhgohbcjnjfaaSuperBackPure
import Derived.Test.YtodhgohbcjnjfaaBlb
import Derived.Test.YtodhgohbcjnjfaaAdlerSeal
import Derived.Test.YtodhgohbcjnjfaaObs
import Derived.Test.YtodhgohbcjnjfaaOr
import Derived.Test.YtodhgohbcjnjfaaKeep
import Derived.Lib.SlBytesConst
namespace Go.Proofs.Ytodhgohbcjnjfaa
open Go.RowKit Go.Proofs.YtodhgohbcjnjfaaW.PrintWords Go.Proofs.YtodhgohbcjnjfaaW.PrintLast Go.Proofs.YtodhgohbcjnjfaaW.PrintMore
set_option linter.unusedVariables false
set_option linter.unusedSimpArgs false
set_option maxRecDepth 100000
def Sup.val (s : Sup) : Value := .agg #[.int .i64 s.ep, .int .i64 s.gn, .int .i64 s.nx, .int .i64 s.st, .int .i64 s.sz]
set_option maxHeartbeats 2000000 in
theorem numbers_calls (s : Sup) (w : World) :
    Calls Try.prog 85 #[s.val] w fun e w' => ∃ A, e = .returned (.slice A 6 6) ∧ RI w' A 6 s.ns ∧ Below w.heap.size w w' := by
  unfold Sup.val
  go_enter Try.func85, Try.ntmps85
  go_wp2
  go_ret
  obtain ⟨W, hW⟩ : ∃ W, W = w.alloc (.cells #[.int .i64 s.ep, .int .i64 s.gn, .int .i64 s.nx, .int .i64 s.st, .int .i64 s.sz] 66) := ⟨_, rfl⟩
  have hs : W.heap.size = w.heap.size + 1 := by rw [hW]; simp
  have hb : Below w.heap.size w W := by rw [hW]; exact below_alloc (Below.refl _ _) _
  have h := C_new (W := W) (fz := (0, 0)) (e := 3) (Kd.int .i64) (reps_nums .i64 W 0 (fun _ => True) s.ns) (by simp [Sup.ns])
  rw [hs] at h
  rw [← hW]
  exact ⟨_, rfl, h, below_alloc hb _⟩
set_option maxHeartbeats 4000000 in
theorem pack_calls (s : Sup) (w : World) :
    Calls Try.prog 28 #[s.val] w fun e w' => ∃ v, e = .returned (.tuple #[v, .bool s.may]) ∧ OB w' w.heap.size v s.pack ∧ Below w.heap.size w w' := by
  unfold Sup.val
  have hcv := Lib.run_convert_bytes_const (P := Try.prog) (w.alloc (.cells #[.int .i64 s.ep, .int .i64 s.gn, .int .i64 s.nx, .int .i64 s.st, .int .i64 s.sz] 66)) 24 5 #[.int .u8 102, .int .u8 108, .int .u8 111, .int .u8 114] 4 4 Try.underlying24 Try.underlying5
  rw [show (w.alloc (.cells #[.int .i64 s.ep, .int .i64 s.gn, .int .i64 s.nx, .int .i64 s.st, .int .i64 s.sz] 66)).heap.size = w.heap.size + 1 from by simp] at hcv
  go_enter Try.func28, Try.ntmps28
  go_upto_region 2 with (fail)
  obtain ⟨W, hW⟩ : ∃ W, W = w.alloc (.cells #[.int .i64 s.ep, .int .i64 s.gn, .int .i64 s.nx, .int .i64 s.st, .int .i64 s.sz] 66) := ⟨_, rfl⟩
  have hsz : W.heap.size = w.heap.size + 1 := by rw [hW]; simp
  have hbW : Below w.heap.size w W := by rw [hW]; exact below_alloc (Below.refl _ _) _
  have hbox : W.heap[w.heap.size]? = some (.cells #[.int .i64 s.ep, .int .i64 s.gn, .int .i64 s.nx, .int .i64 s.st, .int .i64 s.sz] 66 (0, 0)) := by rw [hW]; exact heap_alloc_new w _
  rw [← hW]
  clear hcv hW
  obtain ⟨W1, hW1⟩ : ∃ W1, W1 = W.alloc (.cells #[.int .u8 102, .int .u8 108, .int .u8 111, .int .u8 114] 5 (4, 5)) := ⟨_, rfl⟩
  have hs1 : W1.heap.size = w.heap.size + 2 := by rw [hW1]; simp [hsz]
  have hb1 : Below w.heap.size w W1 := by rw [hW1]; exact below_alloc hbW _
  have hbox1 : W1.heap[w.heap.size]? = some (.cells #[.int .i64 s.ep, .int .i64 s.gn, .int .i64 s.nx, .int .i64 s.st, .int .i64 s.sz] 66 (0, 0)) := by rw [hW1, Below.heap_alloc _ _ _ (by omega)]; exact hbox
  have hcon : W1.heap[w.heap.size + 1]? = some (.cells #[.int .u8 102, .int .u8 108, .int .u8 111, .int .u8 114] 5 (4, 5)) := by rw [hW1, ← hsz]; exact heap_alloc_new W _
  rw [← hW1]
  clear hW1 hbox hbW hsz
  have c0 := blk_cell hbox1 0
  have c1 := blk_cell hbox1 1
  have c2 := blk_cell hbox1 2
  have c3 := blk_cell hbox1 3
  have c4 := blk_cell hbox1 4
  go_wp2_with fail
  refine (numbers_calls s _).mono ?_
  rintro e w2 ⟨A2, rfl, hA2, hb2⟩
  have hs2 := hb2.size
  have hbox2 := (hb2.block w.heap.size (by omega)).trans hbox1
  have hcon2 := (hb2.block (w.heap.size + 1) (by omega)).trans hcon
  have HBW := Aside0.mk (show Below w.heap.size w w2 from hb1.trans (hb2.mono (by omega)))
  obtain ⟨i0, hi, hzz⟩ := Option.map_eq_some_iff.1 infoB
  simp only [Prod.mk.injEq] at hzz
  obtain ⟨hz0, hz1, hz2⟩ := hzz
  have hnew : ∀ (W : World) (ys : List Int) (j : Nat) (u : Value), (nums .u8 ys)[j]? = some u → (W.alloc (.cells (nums .u8 ys).toArray 5)).cell? ((⟨W.heap.size, 0, none⟩ : Addr).add j) = some u := fun W ys j u hj => by
    rw [add_plain, blk_cell (heap_alloc_new W _), List.getElem?_toArray]
    exact hj
  have hold : ∀ (wr : World), Below w2.heap.size w2 wr → ∀ (o : Obj) (b : Addr), some (⟨w.heap.size + 1, 0, none⟩ : Addr) = some b → ∀ (j : Nat) (u : Value), (nums .u8 flor)[j]? = some u → (wr.alloc o).cell? (b.add j) = some u := fun wr hb o b e j u hj => by
    injection e with e
    subst e
    have h : (wr.alloc o).heap[w.heap.size + 1]? = _ := (Below.heap_alloc _ _ _ (by have := hb.size; omega)).trans ((hb.block _ (by omega)).trans hcon2)
    rw [add_plain]
    simp only [World.cell?, h, Option.bind_some, Nat.zero_add]
    simpa [nums, flor] using hj
  have HA2 := Aside0.mk hA2
  clear hA2 hb2 c0 c1 c2 c3 c4 hbox1 hcon hb1
  go_wp2
  go_loopw [4, 13] (fun b i wr => ∃ (k : Nat) (b0 : Value), k ≤ 6 ∧ i = .int .i64 k ∧ b0 = b ∧ Aside0 ((s.ns.take k).all b31 = true) ∧ Aside0 ((k = 0 ∧ b0 = .slice (some ⟨w.heap.size + 1, 0, none⟩) 4 4) ∨ (0 < k ∧ OB wr w2.heap.size b0 (bodyOf (s.ns.take k)))) ∧ Aside0 (Below w2.heap.size w2 wr)) (fun _ i _ => 6 - (intOf i).toNat)
  case atStart => exact ⟨0, _, by omega, rfl, rfl, ⟨rfl⟩, ⟨.inl ⟨rfl, rfl⟩⟩, ⟨Below.refl _ _⟩⟩
  case round =>
    obtain ⟨k, b0, hk, rfl, rfl, HALL, HBO, HB⟩ := hrel
    by_cases hlt : k < 6
    · obtain ⟨ad, e, hx⟩ := Kd.at_int (Kd.C_below HA2.out HB.out) (k : Int) (by omega) (by omega)
      cases e
      simp only [Int.toNat_natCast] at hx
      have k0 : (0 : Int) ≤ (k : Int) := by omega
      have k1 : (k : Int) < 6 := by omega
      have HS := Aside0.mk (take_snocI s.ns k (by simp [Sup.ns]; omega))
      have HM := Aside0.mk (may_bad s k hlt)
      have HBR := Aside0.mk (below_step HBW.out HB.out)
      generalize rd s.ns k = n at *
      by_cases h0 : n < 0
      · have t1 : decide (n < 0) = true := by simp [h0]
        have hm := HM.out (by simp [b31]; omega)
        have HP := Aside0.mk (pack_bad hm)
        have HM' := Aside0.mk hm
        clear hm HM
        go_wp2
        go_ret2
        refine ⟨.slice none 0 0, by rw [HM'.out]; rfl, ?_, HBR.out⟩
        rw [HP.out]
        exact Kd.R_nil _ _ _ _ _
      · have t1 : decide (n < 0) = false := by simp; omega
        by_cases h1 : 2147483647 < n
        · have t2 : decide (2147483647 < n) = true := by simp [h1]
          have hm := HM.out (by simp [b31]; omega)
          have HP := Aside0.mk (pack_bad hm)
          have HM' := Aside0.mk hm
          clear hm HM
          go_wp2
          go_ret2
          refine ⟨.slice none 0 0, by rw [HM'.out]; rfl, ?_, HBR.out⟩
          rw [HP.out]
          exact Kd.R_nil _ _ _ _ _
        · have t2 : decide (2147483647 < n) = false := by simp; omega
          have hbe : be4 n = [n / 16777216, n / 65536 % 256, n / 256 % 256, n % 256] := by
            unfold be4
            rw [show n / 16777216 % 256 = n / 16777216 from by omega]
          have HBE := Aside0.mk hbe
          clear hbe
          have HBX := Aside0.mk (show bodyOf (s.ns.take (k + 1)) = bodyOf (s.ns.take k) ++ be4 n from by rw [HS.out]; simp [bodyOf])
          have HAX := Aside0.mk (show (s.ns.take (k + 1)).all b31 = true from by rw [HS.out, List.all_append, HALL.out]; simp [b31]; omega)
          rcases HBO.out with ⟨hk0, rfl⟩ | ⟨hk0, ho⟩
          · have HK0 := Aside0.mk hk0
            clear hk0
            go_wp2_with (at_builtin; go_must (refine wpList_append_grows _ rfl (.tmp 23) (.tmp 35) 24 rfl 5 i0 (.int .u8 0) 1 1 Try.underlying24 hi hz0 hz1 hz2 rfl (by omega) (some ⟨w.heap.size + 1, 0, none⟩) 4 4 (nums .u8 flor) rfl (by simp) rfl (hold _ HB.out _) ⟨wr.heap.size, 0, none⟩ 4 4 (nums .u8 [n / 16777216, n / 65536 % 256, n / 256 % 256, n % 256]) rfl rfl (hnew wr _) (nums_one _ _) (by omega) (by decide) (by decide) ?_); intro v1 w1 ho1 hg1)
            have hb1 : Below w2.heap.size w2 w1 := HB.out.trans ⟨hg1.os.trans rfl, hg1.tape.trans rfl, hg1.output.trans rfl, Nat.le_trans (by simp) hg1.size, fun i hi => (hg1.block i (by have := HB.out.size; simp; omega) (by simp)).trans (Below.heap_alloc _ _ _ (by have := HB.out.size; omega))⟩
            go_roundw
            case rel =>
              refine ⟨k + 1, v1, by omega, by go_num, rfl, HAX, ⟨.inr ⟨by omega, ?_⟩⟩, ⟨hb1⟩⟩
              rw [HBX.out, HBE.out, HK0.out]
              exact Kd.R_lower (Kd.R_of_own ho1 (fun _ _ => trivial)) (Nat.le_trans HB.out.size (by simp))
            case measure => simp [intOf]; omega
          · go_wp2_with (at_builtin; go_must (refine wp_appendb (w0 := w2) b0 (bodyOf (s.ns.take k)) [n / 16777216, n / 65536 % 256, n / 256 % 256, n % 256] rfl (.tmp 23) (.tmp 35) rfl rfl rfl ho HB.out HB.out.size (by rw [bodyOf_length, List.length_take]; simp [Sup.ns]; omega) ?_); intro v1 w1 ho1 hb1 _)
            go_roundw
            case rel => exact ⟨k + 1, v1, by omega, by go_num, rfl, HAX, ⟨.inr ⟨by omega, by rw [HBX.out, HBE.out]; exact ho1⟩⟩, ⟨hb1⟩⟩
            case measure => simp [intOf]; omega
    · obtain rfl : k = 6 := by omega
      have c1 : wr.cell? ⟨w.heap.size, 1, none⟩ = some (.int .i64 s.gn) := by
        rw [blk_cell ((HB.out.block w.heap.size (by omega)).trans hbox2) 1]
        rfl
      have hall := HALL.out
      rw [show s.ns.take 6 = s.ns from rfl] at hall HBO
      have HBR := Aside0.mk (below_step HBW.out HB.out)
      rcases HBO.out with ⟨hk0, _⟩ | ⟨_, ho⟩
      · omega
      by_cases hg1 : 1 < s.gn
      · have hm : s.may = false := by simp [Sup.may, hall]; omega
        have HP := Aside0.mk (pack_bad hm)
        have HM' := Aside0.mk hm
        clear hm hall ho
        go_wp2
        go_ret2
        refine ⟨.slice none 0 0, by rw [HM'.out]; rfl, ?_, HBR.out⟩
        rw [HP.out]
        exact Kd.R_nil _ _ _ _ _
      · have hm : s.may = true := by simp [Sup.may, hall]; omega
        have HP := Aside0.mk (pack_ok hm)
        have HM' := Aside0.mk hm
        have HO := Aside0.mk ho
        obtain ⟨i0', hi0, hy0, hy1, hy2⟩ := info_parts infoB
        have hmk := fun W : World => run_make (P := Try.prog) W 24 5 i0' (.int .u8 0) Try.underlying24 hi0 hy0 .i64 .i64 64 64 (by omega) (by omega) (by rw [hy2]; omega) (by omega)
        rw [hy1, made_zero] at hmk
        simp only [show (64 : Int).toNat = 64 from rfl] at hmk
        have hbz : Blb (wr.alloc (.cells (nums .u8 (List.replicate 64 0)).toArray 5)) wr.heap.size (List.replicate 64 0) := heap_alloc_new wr _
        have HZ := Aside0.mk hbz
        have HBA := Aside0.mk (below_alloc (Below.refl _ wr) (.cells (nums .u8 (List.replicate 64 0)).toArray 5))
        generalize hZ : (nums .u8 (List.replicate 64 0)).toArray = Z at *
        clear hm hall ho hi0 hy0 hy1 hy2 hZ hbz
        go_wp2_with fail
        obtain ⟨A5, c5, e5, hc5, hC5⟩ := OB_reads HO.out
        subst e5
        have HC5 := Aside0.mk (Kd.C_below hC5 HBA.out)
        have h28 : (bodyOf s.ns).length = 28 := body_length s
        rw [h28] at HC5 hc5 ⊢
        clear hC5
        refine (seal_calls A5 28 c5 (bodyOf s.ns) _ HC5.out hc5 (bodyOf_byt _) (by omega)).mono ?_
        rintro e w6 ⟨v6, rfl, ho6, hb6⟩
        obtain ⟨A6, c6, rfl, hc6, hC6⟩ := OB_reads ho6
        have hl6 : (sealed (bodyOf s.ns)).length = 32 := by rw [sealed_length, h28]
        rw [hl6] at hc6 hC6 ⊢
        have HZ6 := Aside0.mk (HZ.out.below hb6 HZ.out.lt)
        have HC6 := Aside0.mk hC6
        have HB6 := Aside0.mk (below_step HBA.out hb6)
        clear ho6 hb6 hC6 HC5 HZ HBA
        go_wp2_with ((with_reducible refine gate_builtin (b := .copy) rfl ?_); go_must (refine wp_copyb rfl (.tmp 42) (.tmp 44) rfl wr.heap.size 64 64 (List.replicate 64 0) rfl A6 32 c6 (sealed (bodyOf s.ns)) rfl HZ6.out HC6.out (by omega) (by simp) HB6.out (Nat.le_refl _) ?_); intro w7 hz7 hb7)
        go_ret2
        have hl64 : (sealed (bodyOf s.ns) ++ (List.replicate 64 (0 : Int)).drop 32).length = 64 := by rw [List.length_append, hl6, List.length_drop, List.length_replicate]
        have hfin := OB_of_blb hz7 (Nat.le_trans (show w.heap.size ≤ wr.heap.size by have := HBR.out.size; omega) (Nat.le_refl _)) (by rw [hl64]; omega)
        rw [hl64] at hfin
        refine ⟨_, by rw [HM'.out]; rfl, ?_, below_step HBR.out hb7⟩
        rw [HP.out]
        exact hfin
end Go.Proofs.Ytodhgohbcjnjfaa
