/- The document's example of the sum holds; AdlerParts returns true. -/
import Derived.Test.YtcgmnmohpkolmaaAdlerOpen
import Derived.Test.YtcgmnmohpkolmaaKeep2
import Derived.Lib.SlBytesConst
namespace Go.Proofs.Ytcgmnmohpkolmaa
open Go.RowKit Go.Proofs.YtcgmnmohpkolmaaW.PrintWords Go.Proofs.YtcgmnmohpkolmaaW.PrintLast Go.Proofs.YtcgmnmohpkolmaaW.PrintMore
set_option linter.unusedVariables false
set_option linter.unusedSimpArgs false
/-- The example's bytes. -/
def wiki : List Int := [87, 105, 107, 105, 112, 101, 100, 105, 97]
theorem wiki_sum : adler wiki = 300286872 := by decide +kernel
theorem nil_sum : adler [] = 1 := by decide +kernel
theorem wiki_byt : Byt wiki := by unfold Byt wiki; decide
set_option maxHeartbeats 1000000 in
theorem wakes_calls (w : World) : Calls Try.prog 13 #[] w fun e w' => e = .returned (.bool true) ∧ Below w.heap.size w w' := by
  have k1 := fun (W : World) => of_calls (some ⟨W.heap.size, 0, none⟩) 9 9 wiki (W.alloc (.cells (nums .u8 wiki).toArray 5 (9, 10))) (C_new (Kd.int .u8) (reps_nums .u8 W 0 (fun _ => True) wiki) (by decide)) wiki_byt
  rw [wiki_sum] at k1
  have k2 := of_calls none 0 0 []
  rw [nil_sum] at k2
  have K1 := Aside0.mk k1
  have K2 := Aside0.mk k2
  clear k1 k2
  have hcv := fun (w : World) (C : Array Value) (n c : Nat) => Lib.run_convert_bytes_const (P := Try.prog) w 22 5 C n c Try.underlying22 Try.underlying5
  go_enter Try.func13, Try.ntmps13
  go_wp2_with fail
  refine (K1.out w).mono ?_
  rintro e w1 ⟨rfl, ⟨m, rfl⟩⟩
  go_wp2_with fail
  refine (K2.out _ (Kd.C_nil _ _) (by intro x hx; cases hx)).mono ?_
  rintro e w1 ⟨rfl, ⟨m, rfl⟩⟩
  go_wp2
  go_ret
  exact ⟨rfl, pw_below_drewN (below_alloc (Below.refl _ _) _) _⟩
theorem parts_sum (l : List Int) (x : Int) : adler (l ++ [x]) = (adler l / 65536 + (adler l % 65536 + x)) % 65521 * 65536 + (adler l % 65536 + x) % 65521 := by
  have h := ad_bd l
  have e1 : adler l / 65536 = (ad l).2 := by unfold adler; omega
  have e2 : adler l % 65536 = (ad l).1 := by unfold adler; omega
  rw [e1, e2]
  have e3 := ad_snoc l x
  have e4 : (ad (l ++ [x])).1 = ((ad l).1 + x) % 65521 := by rw [e3]
  have e5 : (ad (l ++ [x])).2 = ((ad l).2 + ((ad l).1 + x) % 65521) % 65521 := by rw [e3]
  unfold adler
  rw [e4, e5]
  omega
theorem one_sum (x : Int) (h : 0 ≤ x ∧ x < 256) : adler [x] = (1 + x) * 65537 := by
  unfold adler ad
  simp only [List.foldl_cons, List.foldl_nil]
  omega
set_option maxHeartbeats 2000000 in
theorem adlerParts_calls (A : Option Addr) (c : Nat) (l : List Int) (x : Int) (w : World) (hr : RB w A l.length l) (hc : l.length ≤ c) (hy : l.length * 1 ≤ 140737488351232) (hw : ∀ x ∈ l, (Lit.int .u8 x).wf = true) (hx : (Lit.int .u8 x).wf = true) :
    Calls Try.prog 3 #[.slice A l.length c, .int .u8 x] w fun e w' => e = .returned (.bool true) ∧ Below w.heap.size w w' := by
  have hb := byt_of_wf hw
  have hbx : Byt [x] := byt_of_wf (by simpa using hx)
  obtain ⟨x0, x1⟩ := hbx x (by simp)
  obtain ⟨n0, n1⟩ := adler_bd l
  have K1 := Aside0.mk (of_calls A _ c l w hr hb)
  have K2 := Aside0.mk (fun (m : Nat) => copyb_calls A _ c l (w.drewN m) (Kd.C_drewN hr m) (by omega))
  have K3 := Aside0.mk (of_calls (l := l ++ [x]) (hb := hb.append hbx))
  have K4 := Aside0.mk (of_calls (l := [x]) (hb := hbx))
  have E1 := Aside0.mk (parts_sum l x)
  have E2 := Aside0.mk (one_sum x ⟨x0, x1⟩)
  have HL := Aside0.mk hy
  clear hr hc hw hx hb hbx hy
  generalize adler l = n at *
  have a0 := Int.emod_nonneg n (show (65536 : Int) ≠ 0 by decide)
  have a1 := Int.emod_lt_of_pos n (show (0 : Int) < 65536 by decide)
  have c0 : 0 ≤ n / 65536 := by omega
  have c1 : n / 65536 < 65536 := by omega
  go_enter Try.func3, Try.ntmps3
  go_wp2_with fail
  refine K1.out.mono ?_
  rintro e w1 ⟨rfl, ⟨m, rfl⟩⟩
  go_wp2_with fail
  refine (K2.out m).mono ?_
  rintro e w2 ⟨v2, rfl, ho2, hb2⟩
  have hb2' : Below w.heap.size w w2 := below_step (pw_below_drewN (Below.refl _ _) m) hb2
  have ho2' : OB w2 w.heap.size v2 l := ho2
  have hs := hb2'.size
  go_wp2_with (at_builtin; go_must (refine wp_appendb v2 l [x] rfl (.tmp 24) (.tmp 26) rfl rfl rfl ho2' hb2' hs (by have := HL.out; simp; omega) ?_); intro v3 w3 ho3 hb3 hn3; obtain ⟨A3, c3, rfl, hc3, hC3⟩ := OB_reads ho3)
  refine (K3.out _ _ _ _ (by simpa using hC3)).mono ?_
  rintro e w4 ⟨rfl, ⟨m4, rfl⟩⟩
  rw [E1.out]
  have hw4 := hb3.size
  go_wp2_with fail
  refine (K4.out _ _ _ _ (C_new (fz := (0, 0)) (Kd.int .u8) (reps_nums .u8 w3 0 (fun _ => True) [x]) (by simp))).mono ?_
  rintro e w5 ⟨rfl, ⟨m5, rfl⟩⟩
  rw [E2.out]
  go_wp2_with fail
  refine (wakes_calls _).mono ?_
  rintro e w6 ⟨rfl, hb6⟩
  go_wp2
  go_ret
  exact ⟨rfl, below_step (pw_below_drewN (below_alloc (pw_below_drewN hb3 m4) _) m5) hb6⟩
end Go.Proofs.Ytcgmnmohpkolmaa
