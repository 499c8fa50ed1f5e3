/- super.Pick: which Super of a disk counts, and whether the disk is fresh. -/
import Derived.Test.YtodhgohbcjnjfaaSuperUnpack
import Derived.Test.YtodhgohbcjnjfaaCount
import Derived.Test.YtodhgohbcjnjfaaDiskWrite
namespace Go.Proofs.Ytodhgohbcjnjfaa
open Go.RowKit Go.Proofs.YtodhgohbcjnjfaaW.PrintWords Go.Proofs.YtodhgohbcjnjfaaW.PrintLast Go.Proofs.YtodhgohbcjnjfaaW.PrintMore
set_option linter.unusedVariables false
set_option linter.unusedSimpArgs false
set_option maxRecDepth 100000
/-- The one that counts, behind k sectors. -/
structure PS where
  s : Sup
  ok : Bool
  fr : Bool
def pickC (l : List Int) (k : Nat) (p : Sup) : Bool := isSup l && ((unSup l).ep % 2 == (k : Int)) && decide (p.ep < (unSup l).ep)
def pickSt (l : Nat → List Int) : Nat → PS
  | 0 => ⟨Sup.none, false, false⟩
  | k + 1 => ⟨if pickC (l k) k (pickSt l k).s = true then unSup (l k) else (pickSt l k).s, (pickSt l k).ok || pickC (l k) k (pickSt l k).s, if k = 0 then allZ (l 0) else (pickSt l k).fr⟩
def pick (l : Nat → List Int) : Sup × Bool × Bool := ((pickSt l 2).s, (pickSt l 2).ok, (pickSt l 2).fr && !(pickSt l 2).ok)
theorem isSup_ep (l : List Int) (h : isSup l = true) : 0 ≤ (unSup l).ep ∧ (unSup l).ep ≤ 2147483647 := by
  have hm : (supOf l).may = true := by
    unfold isSup at h
    simp only [Bool.and_eq_true] at h
    exact h.1.2
  unfold unSup
  rw [if_pos h]
  unfold Sup.may at hm
  rw [Bool.and_eq_true] at hm
  have := hm.1
  simp only [Sup.ns, List.all_cons, Bool.and_eq_true] at this
  exact of_decide_eq_true this.1
theorem read_len {s : DS} {N : Nat} (h : s.ok N) (k : Nat) (hk : k < N) : (s.read N k).length = 64 ∧ Byt (s.read N k) := by
  unfold DS.read
  rw [if_pos (by simp [isB]; omega)]
  exact h.now.at_ k hk
set_option maxHeartbeats 8000000 in
theorem pick_calls (a : DA) (N : Nat) (s : DS) (w : World) (h : Dsk w a N s) (hN : 2 ≤ N) :
    Calls Try.prog 36 #[.pointer (some ⟨a.d, 0, none⟩)] w fun e w' => e = .returned (.tuple #[(pick fun k => s.read N k).1.val, .bool (pick fun k => s.read N k).2.1, .bool (pick fun k => s.read N k).2.2]) ∧ Below w.heap.size w w' := by
  have HR := Aside0.mk (fun (k : Nat) (hk : k < 2) => read_len h.ok k (by omega))
  have HD := Aside0.mk h
  have HZ := Aside0.mk (heap_alloc_new w (.cells #[.int .i64 0, .int .i64 0, .int .i64 0, .int .i64 0, .int .i64 0] 66))
  have HB := Aside0.mk (below_alloc (Below.refl _ w) (.cells #[.int .i64 0, .int .i64 0, .int .i64 0, .int .i64 0, .int .i64 0] 66))
  clear h
  go_enter Try.func36, Try.ntmps36
  go_wp2
  go_loopw [3, 4, 9] (fun ok fr i wr => ∃ k : Nat, k ≤ 2 ∧ i = .int .i64 k ∧ ok = .bool (pickSt (fun k => s.read N k) k).ok ∧ fr = .bool (pickSt (fun k => s.read N k) k).fr ∧ Aside0 (wr.heap[w.heap.size]? = some (.cells #[.int .i64 (pickSt (fun k => s.read N k) k).s.ep, .int .i64 (pickSt (fun k => s.read N k) k).s.gn, .int .i64 (pickSt (fun k => s.read N k) k).s.nx, .int .i64 (pickSt (fun k => s.read N k) k).s.st, .int .i64 (pickSt (fun k => s.read N k) k).s.sz] 66 (0, 0))) ∧ Aside0 (Below w.heap.size w wr)) (fun _ _ i _ => 2 - (intOf i).toNat)
  case atStart => exact ⟨0, by omega, rfl, rfl, rfl, HZ, HB⟩
  case round =>
    obtain ⟨k, hk, rfl, rfl, rfl, HX, HBK⟩ := hrel
    clear HZ HB
    by_cases hlt : k < 2
    · have HST := Aside0.mk (show pickSt (fun k => s.read N k) (k + 1) = ⟨if pickC (s.read N k) k (pickSt (fun k => s.read N k) k).s = true then unSup (s.read N k) else (pickSt (fun k => s.read N k) k).s, (pickSt (fun k => s.read N k) k).ok || pickC (s.read N k) k (pickSt (fun k => s.read N k) k).s, if k = 0 then allZ (s.read N (0 : Nat)) else (pickSt (fun k => s.read N k) k).fr⟩ from rfl)
      generalize pickSt (fun k => s.read N k) k = p at *
      have k0 : (0 : Int) ≤ (k : Int) := by omega
      have k1 : (k : Int) < 2 := by omega
      go_wp2_with fail
      refine (read_calls a N s k _ (HD.out.below HBK.out HD.out.lt)).mono ?_
      rintro e w1 ⟨v1, rfl, ho1, hb1⟩
      obtain ⟨hl, hy⟩ := HR.out k hlt
      obtain ⟨A1, c1, rfl, hc1, hC1⟩ := OB_reads ho1
      rw [hl] at hc1 hC1 ⊢
      have HC1 := Aside0.mk hC1
      have HY1 := Aside0.mk hy
      have HX1 := Aside0.mk ((hb1.block w.heap.size (blk_lt HX.out)).trans HX.out)
      have HB1 := Aside0.mk (below_step HBK.out hb1)
      have hgs : w.heap.size < w1.heap.size := blk_lt HX1.out
      clear ho1 hb1 hC1 hl hy HX HBK
      go_upto_if 16 with (fail)
      go_cut [4] (fun s4 wx => ∃ q : Bool, s4 = .bool q ∧ Aside0 (q = if k = 0 then allZ (s.read N (0 : Nat)) else p.fr) ∧ Aside0 (Below w1.heap.size w1 wx))
      case first =>
        by_cases hk0 : k = 0
        · subst hk0
          have HC2 := Aside0.mk (Kd.C_below HC1.out (below_alloc (Below.refl _ w1) (.cells #[.int .u8 0] 5)))
          have HG2 := Aside0.mk (heap_alloc_new w1 (.cells #[.int .u8 0] 5))
          go_wp2_with fail
          refine (count0_calls A1 64 c1 (s.read N (0 : Nat)) w1.heap.size 1 _ HC2.out HY1.out (blk_cell HG2.out 0)).mono ?_
          rintro e w2 ⟨n, rfl, hn, rfl⟩
          have HN := Aside0.mk hn
          clear hn
          go_wp2_with fail
          go_meet
          refine ⟨_, rfl, ⟨?_⟩, ⟨below_alloc (Below.refl _ _) _⟩⟩
          rw [if_pos trivial, Bool.eq_iff_iff, beq_iff_eq]
          exact HN.out
        · go_wp2_with fail
          go_meet
          exact ⟨_, rfl, ⟨by rw [if_neg hk0]⟩, ⟨Below.refl _ _⟩⟩
      case rest =>
        obtain ⟨fr', rfl, HFR, HB2⟩ := hcut
        have HC2 := Aside0.mk (Kd.C_below HC1.out HB2.out)
        have HX2 := Aside0.mk ((HB2.out.block w.heap.size (blk_lt HX1.out)).trans HX1.out)
        have HBW := Aside0.mk (below_step HB1.out HB2.out)
        clear HC1 HX1 HB1 HB2 HR
        have hgs2 : w.heap.size < wc.heap.size := blk_lt HX2.out
        generalize s.read N k = l at *
        go_wp2_with fail
        refine (unpack_calls A1 64 c1 l _ HC2.out hc1 HY1.out).mono ?_
        rintro e w3 ⟨rfl, hb3⟩
        have HX3 := Aside0.mk ((hb3.block w.heap.size (by omega)).trans HX2.out)
        have hs3 := hb3.size
        have HBW3 := Aside0.mk (below_step HBW.out hb3)
        have HEP := Aside0.mk (isSup_ep l)
        unfold Sup.val
        go_upto_region 8 with (fail)
        obtain ⟨W, hW⟩ : ∃ W, W = w3.alloc (.cells #[.int .i64 (unSup l).ep, .int .i64 (unSup l).gn, .int .i64 (unSup l).nx, .int .i64 (unSup l).st, .int .i64 (unSup l).sz] 66) := ⟨_, rfl⟩
        rw [← hW]
        have hsW : W.heap.size = w3.heap.size + 1 := by rw [hW]; simp
        have HY3 := Aside0.mk (show W.heap[w3.heap.size]? = some (.cells #[.int .i64 (unSup l).ep, .int .i64 (unSup l).gn, .int .i64 (unSup l).nx, .int .i64 (unSup l).st, .int .i64 (unSup l).sz] 66 (0, 0)) by rw [hW]; exact heap_alloc_new w3 _)
        have HXW := Aside0.mk (show W.heap[w.heap.size]? = some (.cells #[.int .i64 p.s.ep, .int .i64 p.s.gn, .int .i64 p.s.nx, .int .i64 p.s.st, .int .i64 p.s.sz] 66 (0, 0)) by rw [hW, Below.heap_alloc _ _ _ (by omega)]; exact HX3.out)
        have HWW := Aside0.mk (show Below w.heap.size w W by rw [hW]; exact below_alloc HBW3.out _)
        clear hW hb3 HX3 HX2 HBW3 HBW HC2 HY1
        have y0 := blk_cell HY3.out 0
        have y1 := blk_cell HY3.out 1
        have y2 := blk_cell HY3.out 2
        have y3 := blk_cell HY3.out 3
        have y4 := blk_cell HY3.out 4
        have x0 := blk_cell HXW.out 0
        have x1 := blk_cell HXW.out 1
        have x2 := blk_cell HXW.out 2
        have x3 := blk_cell HXW.out 3
        have x4 := blk_cell HXW.out 4
        have f0 := blk_frozen HXW.out 0
        have f1 := blk_frozen HXW.out 1
        have f2 := blk_frozen HXW.out 2
        have f3 := blk_frozen HXW.out 3
        have f4 := blk_frozen HXW.out 4
        have HPC := Aside0.mk (show pickC l k p.s = (isSup l && ((unSup l).ep % 2 == (k : Int)) && decide (p.s.ep < (unSup l).ep)) from rfl)
        by_cases hi : isSup l = true
        · obtain ⟨he0, he1⟩ := HEP.out hi
          by_cases hm : (unSup l).ep % 2 = (k : Int)
          · have t1 : ((unSup l).ep % 2 == (k : Int)) = true := by simp [hm]
            by_cases hgt : p.s.ep < (unSup l).ep
            · have HT := Aside0.mk (show pickC l k p.s = true by rw [HPC.out, hi]; simp [hm, hgt])
              rw [hi]
              clear hi HEP hm HPC
              have h5 := blk_set5 HXW.out (.int .i64 (unSup l).ep) (.int .i64 (unSup l).gn) (.int .i64 (unSup l).nx) (.int .i64 (unSup l).st) (.int .i64 (unSup l).sz)
              have HB5 := Aside0.mk (below_set5 HWW.out (Nat.le_refl _) (.int .i64 (unSup l).ep) (.int .i64 (unSup l).gn) (.int .i64 (unSup l).nx) (.int .i64 (unSup l).st) (.int .i64 (unSup l).sz))
              have H5 := Aside0.mk h5
              clear h5 x0 x1 x2 x3 x4
              have x0 := blk_cell HXW.out 0
              have x1 := blk_cell HXW.out 1
              have x2 := blk_cell HXW.out 2
              have x3 := blk_cell HXW.out 3
              have x4 := blk_cell HXW.out 4
              go_wp2
              go_roundw
              case rel =>
                refine ⟨k + 1, by omega, by go_num, by rw [HST.out, HT.out]; simp, by rw [HST.out, HFR.out], ⟨?_⟩, HB5⟩
                rw [HST.out, HT.out]
                exact H5.out
              case measure => simp [intOf]; omega
            · have HT := Aside0.mk (show pickC l k p.s = false by rw [HPC.out]; simp [hgt])
              rw [hi]
              clear hi HEP hm HPC
              go_wp2
              go_roundw
              case rel =>
                refine ⟨k + 1, by omega, by go_num, by rw [HST.out, HT.out]; simp, by rw [HST.out, HFR.out], ⟨?_⟩, HWW⟩
                rw [HST.out, HT.out]
                exact HXW.out
              case measure => simp [intOf]; omega
          · have HT := Aside0.mk (show pickC l k p.s = false by rw [HPC.out]; simp [hm])
            have t1 : ((unSup l).ep % 2 == (k : Int)) = false := by simp [hm]
            rw [hi]
            clear hi HEP hm HPC
            go_wp2
            go_roundw
            case rel =>
              refine ⟨k + 1, by omega, by go_num, by rw [HST.out, HT.out]; simp, by rw [HST.out, HFR.out], ⟨?_⟩, HWW⟩
              rw [HST.out, HT.out]
              exact HXW.out
            case measure => simp [intOf]; omega
        · have HT := Aside0.mk (show pickC l k p.s = false by rw [HPC.out]; simp [hi])
          have hi' : isSup l = false := by simpa using hi
          rw [hi']
          clear hi hi' HEP HPC
          go_wp2
          go_roundw
          case rel =>
            refine ⟨k + 1, by omega, by go_num, by rw [HST.out, HT.out]; simp, by rw [HST.out, HFR.out], ⟨?_⟩, HWW⟩
            rw [HST.out, HT.out]
            exact HXW.out
          case measure => simp [intOf]; omega
    · obtain rfl : k = 2 := by omega
      have HPK := Aside0.mk (show (pick fun k => s.read N k) = ((pickSt (fun k => s.read N k) 2).s, (pickSt (fun k => s.read N k) 2).ok, (pickSt (fun k => s.read N k) 2).fr && !(pickSt (fun k => s.read N k) 2).ok) from rfl)
      generalize pickSt (fun k => s.read N k) 2 = p at *
      have x0 := blk_cell HX.out 0
      have x1 := blk_cell HX.out 1
      have x2 := blk_cell HX.out 2
      have x3 := blk_cell HX.out 3
      have x4 := blk_cell HX.out 4
      have f0 := blk_frozen HX.out 0
      have f1 := blk_frozen HX.out 1
      have f2 := blk_frozen HX.out 2
      have f3 := blk_frozen HX.out 3
      have f4 := blk_frozen HX.out 4
      obtain ⟨⟨v0, v1, v2, v3, v4⟩, ok, fr⟩ := p
      cases fr <;> cases ok
      all_goals
        go_wp2
        obtain ⟨W3, hW3⟩ : ∃ W3, W3 = (((((wr.setCell ⟨w.heap.size, 0, none⟩ (.int .i64 v0)).setCell ⟨w.heap.size, 1, none⟩ (.int .i64 v1)).setCell ⟨w.heap.size, 2, none⟩ (.int .i64 v2)).setCell ⟨w.heap.size, 3, none⟩ (.int .i64 v3)).setCell ⟨w.heap.size, 4, none⟩ (.int .i64 v4)) := ⟨_, rfl⟩
        rw [← hW3]
        have h5 := blk_set5 HX.out (.int .i64 v0) (.int .i64 v1) (.int .i64 v2) (.int .i64 v3) (.int .i64 v4)
        rw [← hW3] at h5
        have HB5 := Aside0.mk (below_set5 HBK.out (Nat.le_refl _) (.int .i64 v0) (.int .i64 v1) (.int .i64 v2) (.int .i64 v3) (.int .i64 v4))
        rw [← hW3] at HB5
        clear hW3
        have e0 := blk_cell h5 0
        have e1 := blk_cell h5 1
        have e2 := blk_cell h5 2
        have e3 := blk_cell h5 3
        have e4 := blk_cell h5 4
        first
          | (refine bodyPost_ret (v := .tuple #[.agg #[.int .i64 v0, .int .i64 v1, .int .i64 v2, .int .i64 v3, .int .i64 v4], .bool true, .bool true]) (by simp [results, Try.results36, go_sem, e0, e1, e2, e3, e4]) rfl ⟨?_, HB5.out⟩; rw [HPK.out]; rfl)
          | (refine bodyPost_ret (v := .tuple #[.agg #[.int .i64 v0, .int .i64 v1, .int .i64 v2, .int .i64 v3, .int .i64 v4], .bool true, .bool false]) (by simp [results, Try.results36, go_sem, e0, e1, e2, e3, e4]) rfl ⟨?_, HB5.out⟩; rw [HPK.out]; rfl)
          | (refine bodyPost_ret (v := .tuple #[.agg #[.int .i64 v0, .int .i64 v1, .int .i64 v2, .int .i64 v3, .int .i64 v4], .bool false, .bool true]) (by simp [results, Try.results36, go_sem, e0, e1, e2, e3, e4]) rfl ⟨?_, HB5.out⟩; rw [HPK.out]; rfl)
          | (refine bodyPost_ret (v := .tuple #[.agg #[.int .i64 v0, .int .i64 v1, .int .i64 v2, .int .i64 v3, .int .i64 v4], .bool false, .bool false]) (by simp [results, Try.results36, go_sem, e0, e1, e2, e3, e4]) rfl ⟨?_, HB5.out⟩; rw [HPK.out]; rfl)
end Go.Proofs.Ytodhgohbcjnjfaa
