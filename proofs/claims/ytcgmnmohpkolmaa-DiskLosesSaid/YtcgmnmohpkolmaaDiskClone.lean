/- Disk's Clone: another one, as it is. -/
import Derived.Test.YtcgmnmohpkolmaaDiskLaw
namespace Go.Proofs.Ytcgmnmohpkolmaa
open Go.RowKit Go.Proofs.YtcgmnmohpkolmaaW.PrintWords Go.Proofs.YtcgmnmohpkolmaaW.PrintLast Go.Proofs.YtcgmnmohpkolmaaW.PrintMore
set_option linter.unusedVariables false
set_option linter.unusedSimpArgs false
theorem own_block {w : World} {base : Nat} {e : TypeId} {size : Nat} {v : Value} {n : Nat} {xs : List Value} (h : w.ownsRow base e size v n xs) (hn : 0 < n) :
    ∃ g c tl, v = .slice (some ⟨g, 0, none⟩) n c ∧ base ≤ g ∧ w.heap[g]? = some (.cells (xs ++ tl).toArray e (0, 0)) := by
  rcases h.2 with ⟨rfl, h0⟩ | ⟨g, cap, cur, rfl, hbg, hg, hnc, hcm, hcs, htake⟩
  · omega
  · refine ⟨g, cap, cur.toList.drop (n * size), rfl, hbg, ?_⟩
    rw [hg, ← htake, List.take_append_drop]
set_option maxHeartbeats 1000000 in
theorem clone_secs_calls (g n c : Nat) (xs : List Value) (w : World) (hn : 0 < n) (hl : xs.length = n * 64) (hsrc : ∀ j u, xs[j]? = some u → w.cell? ((⟨g, 0, none⟩ : Addr).add j) = some u) (h1 : ∀ u ∈ xs, u.oneCell' = true) (hb : n ≤ 1024) :
    Calls Try.prog 44 #[.slice (some ⟨g, 0, none⟩) n c] w fun e w' => ∃ g' c' tl, e = .returned (.slice (some ⟨g', 0, none⟩) n c') ∧ w'.heap[g']? = some (.cells (xs ++ tl).toArray 60 (0, 0)) ∧ w.heap.size ≤ g' ∧ Below w.heap.size w w' := by
  have hq := fun (W : World) => Lib.run_eql_slice_nil (P := Try.prog) W 55 60 (some ⟨g, 0, none⟩) n c 0 0 Try.underlying55
  obtain ⟨i0, hi, hzz⟩ := Option.map_eq_some_iff.1 infoS'
  simp only [Prod.mk.injEq] at hzz
  obtain ⟨hz0, hz1, hz2⟩ := hzz
  go_enter Try.func44, Try.ntmps44
  go_wp2_with (at_builtin; go_must (refine wpList_append_own _ rfl (.tmp 5) (.tmp 6) 55 rfl w.heap.size 60 i0 zero64 64 64 Try.underlying55 hi hz0 hz1 hz2 (by rw [zero64_cells]; simp) (by omega) _ 0 [] rfl (World.ownsRow_made w #[] 0 (Nat.le_refl _) (by decide) rfl) ⟨g, 0, none⟩ n c xs rfl hl (fun j u hj => (World.grownBy_alloc w _ none).cell (hsrc j u hj) (by simp)) h1 (by simp [maxLen]; omega) (by omega) (by simp) ?_); intro v1 w1 ho1 hg1 _)
  have hb1 : Below w.heap.size w w1 := ⟨hg1.os.trans rfl, hg1.tape.trans rfl, hg1.output.trans rfl, Nat.le_trans (by simp) hg1.size, fun i hi => (hg1.block i (by simp; omega) (show some i ≠ some w.heap.size from fun h => by injection h; omega)).trans (Below.heap_alloc _ _ _ hi)⟩
  rw [Nat.zero_add, List.nil_append] at ho1
  obtain ⟨g', c', tl, rfl, hge, hhe⟩ := own_block ho1 hn
  go_ret
  exact ⟨g', c', tl, rfl, hhe, hge, hb1⟩
theorem infoB1 : (Try.prog.info? 4).map (fun i => (i.zero, i.size, i.bytes)) = some (some (.bool false), 1, 1) := by kernel_rfl
set_option maxHeartbeats 1000000 in
theorem clone_bools_calls (g n c : Nat) (xs : List Value) (w : World) (hn : 0 < n) (hl : xs.length = n * 1) (hsrc : ∀ j u, xs[j]? = some u → w.cell? ((⟨g, 0, none⟩ : Addr).add j) = some u) (h1 : ∀ u ∈ xs, u.oneCell' = true) (hb : n ≤ 1024) :
    Calls Try.prog 45 #[.slice (some ⟨g, 0, none⟩) n c] w fun e w' => ∃ g' c' tl, e = .returned (.slice (some ⟨g', 0, none⟩) n c') ∧ w'.heap[g']? = some (.cells (xs ++ tl).toArray 4 (0, 0)) ∧ w.heap.size ≤ g' ∧ Below w.heap.size w w' := by
  have hq := fun (W : World) => Lib.run_eql_slice_nil (P := Try.prog) W 56 4 (some ⟨g, 0, none⟩) n c 0 0 Try.underlying56
  obtain ⟨i0, hi, hzz⟩ := Option.map_eq_some_iff.1 infoB1
  simp only [Prod.mk.injEq] at hzz
  obtain ⟨hz0, hz1, hz2⟩ := hzz
  go_enter Try.func45, Try.ntmps45
  go_wp2_with (at_builtin; go_must (refine wpList_append_own _ rfl (.tmp 5) (.tmp 6) 56 rfl w.heap.size 4 i0 (.bool false) 1 1 Try.underlying56 hi hz0 hz1 hz2 rfl (by omega) _ 0 [] rfl (World.ownsRow_made w #[] 0 (Nat.le_refl _) (by decide) rfl) ⟨g, 0, none⟩ n c xs rfl hl (fun j u hj => (World.grownBy_alloc w _ none).cell (hsrc j u hj) (by simp)) h1 (by simp [maxLen]; omega) (by omega) (by simp) ?_); intro v1 w1 ho1 hg1 _)
  have hb1 : Below w.heap.size w w1 := ⟨hg1.os.trans rfl, hg1.tape.trans rfl, hg1.output.trans rfl, Nat.le_trans (by simp) hg1.size, fun i hi => (hg1.block i (by simp; omega) (show some i ≠ some w.heap.size from fun h => by injection h; omega)).trans (Below.heap_alloc _ _ _ hi)⟩
  rw [Nat.zero_add, List.nil_append] at ho1
  obtain ⟨g', c', tl, rfl, hge, hhe⟩ := own_block ho1 hn
  go_ret
  exact ⟨g', c', tl, rfl, hhe, hge, hb1⟩
end Go.Proofs.Ytcgmnmohpkolmaa
