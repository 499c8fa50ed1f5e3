/- The disk's statements: Sector, the document's example. -/
import Derived.Test.YtcgmnmohpkolmaaDiskNew
import Derived.Test.YtcgmnmohpkolmaaKeep2
import Derived.Test.YtcgmnmohpkolmaaAdlerFinds
namespace Go.Proofs.Ytcgmnmohpkolmaa
open Go.RowKit Go.Proofs.YtcgmnmohpkolmaaW.PrintWords Go.Proofs.YtcgmnmohpkolmaaW.PrintLast Go.Proofs.YtcgmnmohpkolmaaW.PrintMore
set_option linter.unusedVariables false
set_option linter.unusedSimpArgs false
set_option maxRecDepth 100000
theorem rep_set (k : Nat) (hk : k < 64) (x : Int) : (List.replicate k x ++ List.replicate (64 - k) 0).set k x = List.replicate (k + 1) x ++ List.replicate (64 - (k + 1)) 0 := by
  rw [List.set_append_right _ _ (by simp), List.length_replicate, Nat.sub_self, show 64 - k = (64 - (k + 1)) + 1 from by omega, List.replicate_succ, List.set_cons_zero, List.replicate_succ', List.append_assoc]
  rfl
theorem byt_rep (n : Nat) (x : Int) (h : 0 ≤ x ∧ x < 256) : Byt (List.replicate n x) := fun y hy => by
  have := List.eq_of_mem_replicate hy
  omega
set_option maxHeartbeats 4000000 in
theorem sector_calls (x : Int) (w : World) (h : 0 ≤ x ∧ x < 256) :
    Calls Try.prog 26 #[.int .i64 x] w fun e w' => ∃ v, e = .returned v ∧ OB w' w.heap.size v (List.replicate 64 x) ∧ Below w.heap.size w w' := by
  obtain ⟨h0, h1⟩ := h
  have hq : x / 256 = 0 := by omega
  have hq' : x % 256 = x := by omega
  go_enter Try.func26, Try.ntmps26
  go_wp2_with (at_make; go_must (refine Kd.R_make (Kd.int .u8) (w0 := w) w.heap.size 5 rfl (N := 5) rfl 22 _ _ rfl 64 rfl rfl Try.underlying22 (.int .u8 0) 1 infoB rfl (by decide) (by decide) 0 (ok := fun _ => True) (okp := fun _ => True) rfl (fun _ _ => trivial) trivial (by omega) (by omega) (Below.refl _ _) (Nat.le_refl _) ?_); intro v1 w1 ho1 hb1 hg1 hn1; obtain ⟨g, cap, rfl, hg, hgl, _⟩ := Kd.R_form ho1 (by simp))
  have HO := Aside0.mk ho1
  have HB := Aside0.mk hb1
  clear ho1 hb1 hg1 hn1
  simp only [List.length_replicate] at HO ⊢
  go_loopw [8] (fun i wr => ∃ k : Nat, k ≤ 64 ∧ i = .int .i64 k ∧ Aside0 (OB wr w.heap.size (.slice (some ⟨g, 0, none⟩) 64 cap) (List.replicate k x ++ List.replicate (64 - k) 0)) ∧ Aside0 (Below w.heap.size w wr)) (fun i _ => 64 - (intOf i).toNat)
  case atStart => exact ⟨0, by omega, rfl, HO, HB⟩
  case round =>
    obtain ⟨k, hk, rfl, HK, HBK⟩ := hrel
    by_cases hlt : k < 64
    · obtain ⟨hc, hf⟩ := OB_at HK.out k hlt
      have HP := Aside0.mk (OB_put HK.out k x)
      have i0 : (0 : Int) ≤ (k : Int) := by omega
      have i1 : (k : Int) < 64 := by omega
      generalize rd (List.replicate k x ++ List.replicate (64 - k) 0) (k : Int) = u at *
      go_wp2
      go_roundw
      case rel => exact ⟨k + 1, by omega, by go_num, ⟨by rw [← rep_set k hlt]; exact HP.out⟩, ⟨below_set HBK.out hg⟩⟩
      case measure => simp [intOf]; omega
    · obtain rfl : k = 64 := by omega
      go_wp2
      go_ret
      exact ⟨_, rfl, by simpa using HK.out, HBK.out⟩
/-- The example's disk, by steps. -/
def wk1 : DS := ((newDS 5).write 5 2 (List.replicate 64 7)).2
theorem wk_no : (newDS 5).write 5 2 (List.replicate 63 0) = (1, newDS 5) := by
  unfold DS.write
  rw [if_neg (by decide), if_pos (.inr (by decide))]
theorem wk_yes : ((newDS 5).write 5 2 (List.replicate 64 7)).1 = 0 := by decide +kernel
theorem wk_read : (wk1.crash 0 1).read 5 2 = 7 :: List.replicate 63 0 := by decide +kernel
theorem OB_away {w w1 : World} {a : DA} {v : Value} {l : List Int} {A : Option Addr} {n c : Nat} (h : OB w1 w.heap.size v l) (hv : v = .slice A n c) (hp : 0 < l.length) (hd : ∀ i, a.has i → i < w.heap.size) : ∀ ad, A = some ad → ¬ a.has ad.block := fun ad e hh => by
  obtain ⟨g, cap, e1, hg, _⟩ := Kd.R_form h hp
  rw [hv] at e1
  injection e1 with e1 e2 e3
  rw [e] at e1
  cases e1
  have := hd g hh
  omega
theorem But.step {S : Nat → Prop} {w w1 w2 : World} (h : Below w.heap.size w w1) (hb : But S w1 w2) (hS : ∀ i, S i → w.heap.size ≤ i) : Below w.heap.size w w2 := h.trans (hb.below hS h.size)
theorem wk_write : (newDS 5).write 5 2 (List.replicate 64 7) = (0, wk1) := Prod.ext wk_yes rfl
set_option maxHeartbeats 4000000 in
theorem wakes17_calls (w : World) : Calls Try.prog 31 #[] w fun e w' => e = .returned (.bool true) ∧ Below w.heap.size w w' := by
  go_enter Try.func31, Try.ntmps31
  go_wp2_with fail
  refine (new_calls 5 5 rfl _ (by omega) (by omega)).mono ?_
  rintro e w1 ⟨a, rfl, h1, ha, hb1⟩
  have H1 := Aside0.mk h1
  have HB1 := Aside0.mk hb1
  have HA := Aside0.mk ha
  clear h1 hb1 ha
  go_wp2_with fail
  refine (size_calls a 5 _ _ H1.out).mono ?_
  rintro e w2 ⟨rfl, rfl⟩
  have hs1 := H1.out
  obtain ⟨i0, hi0, hz0, hz1, hz2⟩ := info_parts infoB
  have hmk := fun W : World => run_make (P := Try.prog) W 22 5 i0 (.int .u8 0) Try.underlying22 hi0 hz0 .i64 .i64 63 63 (by omega) (by omega) (by rw [hz2]; omega) (by omega)
  rw [hz1, made_zero] at hmk
  simp only [show (63 : Int).toNat = 63 from rfl] at hmk
  have hob := OB_new w1 w1.heap.size (List.replicate 63 0) (Nat.le_refl _) (by simp)
  generalize hZ : (nums .u8 (List.replicate (Int.toNat 63) 0)).toArray = Z at *
  rw [show (nums .u8 (List.replicate 63 0)).toArray = Z from hZ] at hob hmk
  rw [List.length_replicate] at hob
  have HOB := Aside0.mk hob
  clear hi0 hz0 hz1 hz2 hZ hs1 hob
  go_wp2_with fail
  have hA0 := OB_away HOB.out rfl (by simp) H1.out.lt
  refine (write_calls a 5 _ 2 _ _ _ (List.replicate 63 0) _ (H1.out.after (below_alloc (Below.refl _ _) _)) ((Kd.R_reads' HOB.out).2.2) (byt_rep _ _ (by omega)) hA0).mono ?_
  rw [wk_no]
  rintro e w2 ⟨rfl, h2, hb2⟩
  have H2 := Aside0.mk h2
  have HB2 := Aside0.mk (But.step (below_alloc HB1.out _) hb2 HA.out)
  clear h2 hb2 hA0
  go_wp2_with fail
  refine (sector_calls 7 _ (by omega)).mono ?_
  rintro e w3 ⟨v3, rfl, ho3, hb3⟩
  obtain ⟨A3, c3, rfl, hc3, hC3⟩ := OB_reads ho3
  have hA3 := OB_away ho3 rfl (by simp) H2.out.lt
  have HC3 := Aside0.mk hC3
  have HA3 := Aside0.mk hA3
  have H3 := Aside0.mk (H2.out.after hb3)
  have HB3 := Aside0.mk (below_step HB2.out hb3)
  clear ho3 hb3 hA3 hC3
  rw [List.length_replicate] at hc3 HC3 ⊢
  go_wp2_with fail
  refine (write_calls a 5 _ 2 _ _ _ (List.replicate 64 7) _ H3.out HC3.out (byt_rep _ _ (by omega)) HA3.out).mono ?_
  rw [wk_write]
  rintro e w4 ⟨rfl, h4, hb4⟩
  have H4 := Aside0.mk h4
  have HB4 := Aside0.mk (But.step HB3.out hb4 HA.out)
  clear h4 hb4 HC3 HA3
  go_wp2_with fail
  refine (crash_calls a 5 _ 0 1 _ H4.out (by omega)).mono ?_
  rintro e w5 ⟨rfl, w5', hb5, hb5', h5⟩
  have H5 := Aside0.mk h5
  have HB5 := Aside0.mk (But.step (below_step HB4.out hb5) hb5' HA.out)
  clear h5 hb5 hb5'
  go_wp2_with fail
  refine (read_calls a 5 _ 2 _ H5.out).mono ?_
  rw [show (DS.crash (0, wk1).2 0 1).read 5 2 = 7 :: List.replicate 63 0 from wk_read]
  rintro e w6 ⟨v6, rfl, ho6, hb6⟩
  have HB6 := Aside0.mk (below_step HB5.out hb6)
  obtain ⟨g6, c6, rfl, hg6, hgl6, _⟩ := Kd.R_form ho6 (by decide)
  rw [show (7 :: List.replicate 63 (0 : Int)).length = 64 from rfl] at ho6 ⊢
  have hx0 := (OB_at ho6 0 (by omega)).1
  have hx1 := (OB_at ho6 1 (by omega)).1
  rw [show rd (7 :: List.replicate 63 (0 : Int)) ((0 : Nat) : Int) = 7 from rfl] at hx0
  rw [show rd (7 :: List.replicate 63 (0 : Int)) ((1 : Nat) : Int) = 0 from rfl] at hx1
  clear ho6 hb6
  go_wp2
  go_ret
  exact ⟨rfl, HB6.out⟩
end Go.Proofs.Ytcgmnmohpkolmaa
