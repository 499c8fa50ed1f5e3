/- Disk's Clone: another one, as it is. -/
import Derived.Test.YtcgmnmohpkolmaaDiskClone
namespace Go.Proofs.Ytcgmnmohpkolmaa
open Go.RowKit Go.Proofs.YtcgmnmohpkolmaaW.PrintWords Go.Proofs.YtcgmnmohpkolmaaW.PrintLast Go.Proofs.YtcgmnmohpkolmaaW.PrintMore
set_option linter.unusedVariables false
set_option linter.unusedSimpArgs false
section
variable {w : World} {a : DA} {N : Nat} {s : DS}
theorem Dsk.srcN (h : Dsk w a N s) : ∀ j u, (nums .u8 s.now.flatten)[j]? = some u → w.cell? ((⟨a.n, 0, none⟩ : Addr).add j) = some u := fun j u hj => by
  have hjl := (List.getElem?_eq_some_iff.1 hj).1
  rw [add_plain, blk_cell h.hn, List.getElem?_toArray]
  rw [List.getElem?_append_left hjl]
  exact hj
theorem Dsk.srcO (h : Dsk w a N s) : ∀ j u, (nums .u8 s.old.flatten)[j]? = some u → w.cell? ((⟨a.o, 0, none⟩ : Addr).add j) = some u := fun j u hj => by
  have hjl := (List.getElem?_eq_some_iff.1 hj).1
  rw [add_plain, blk_cell h.ho, List.getElem?_toArray]
  rw [List.getElem?_append_left hjl]
  exact hj
theorem Dsk.srcP (h : Dsk w a N s) : ∀ j u, (bools s.pend)[j]? = some u → w.cell? ((⟨a.p, 0, none⟩ : Addr).add j) = some u := fun j u hj => by
  have hjl := (List.getElem?_eq_some_iff.1 hj).1
  rw [add_plain, blk_cell h.hp, List.getElem?_toArray]
  rw [List.getElem?_append_left hjl]
  exact hj
theorem bools_one (l : List Bool) : ∀ v ∈ bools l, v.oneCell' = true := fun v hv => by
  simp only [bools, List.mem_map] at hv
  obtain ⟨_, _, rfl⟩ := hv
  rfl
end
set_option maxRecDepth 100000
set_option maxHeartbeats 4000000 in
theorem dclone_calls (a : DA) (N : Nat) (s : DS) (w : World) (h : Dsk w a N s) (hN : 0 < N) :
    Calls Try.prog 35 #[.pointer (some ⟨a.d, 0, none⟩)] w fun e w' => ∃ b : DA, e = .returned (.pointer (some ⟨b.d, 0, none⟩)) ∧ Dsk w' b N s ∧ (∀ i, b.has i → w.heap.size ≤ i) ∧ Below w.heap.size w w' := by
  have H := Aside0.mk h
  have h0 := h.c0
  have h1 := h.c1
  have h2 := h.c2
  have h3 := h.c3
  have h4 := h.c4
  have h5 := h.c5
  have ln : (nums .u8 s.now.flatten).length = N * 64 := by rw [nums_length, flat_length h.ok.now]
  have lo : (nums .u8 s.old.flatten).length = N * 64 := by rw [nums_length, flat_length h.ok.old]
  have lp : (bools s.pend).length = N * 1 := by rw [show (bools s.pend).length = s.pend.length from by simp [bools], h.ok.pend]; omega
  have hsm := h.ok.small
  have hd := h.dn
  clear h
  go_enter Try.func35, Try.ntmps35
  go_upto_region 2 with (fail)
  obtain ⟨wa, hwa⟩ : ∃ wa, wa = w.alloc (Obj.cells #[.slice (some ⟨a.n, 0, none⟩) N a.cn, .slice (some ⟨a.o, 0, none⟩) N a.co, .slice (some ⟨a.p, 0, none⟩) N a.cp, .bool s.dead, .bool s.lit, .int .i64 s.left] 58) := ⟨_, rfl⟩
  rw [← hwa]
  have hba : Below w.heap.size w wa := hwa ▸ below_alloc (Below.refl _ _) _
  have hda : wa.heap[w.heap.size]? = some (.cells #[.slice (some ⟨a.n, 0, none⟩) N a.cn, .slice (some ⟨a.o, 0, none⟩) N a.co, .slice (some ⟨a.p, 0, none⟩) N a.cp, .bool s.dead, .bool s.lit, .int .i64 s.left] 58 (0, 0)) := hwa ▸ heap_alloc_new w _
  have hsa : wa.heap.size = w.heap.size + 1 := by rw [hwa]; simp
  have HA := Aside0.mk (H.out.after hba)
  have k0 := HA.out.c0
  have k1 := HA.out.c1
  have k2 := HA.out.c2
  clear hwa h0 h1 h2 h3 h4 h5
  refine start_ (n := 21) (S := fun w' => w'.cell? ⟨a.d, 0, none⟩ = some (.slice (some ⟨a.n, 0, none⟩) N a.cn) ∧ w'.cell? ⟨a.d, 1, none⟩ = some (.slice (some ⟨a.o, 0, none⟩) N a.co) ∧ w'.cell? ⟨a.d, 2, none⟩ = some (.slice (some ⟨a.p, 0, none⟩) N a.cp) ∧ Dsk w' a N s ∧ Below wa.heap.size wa w') (ds := [16, 18, 20]) #[false, false, false, false, false, false, false, false, false, false, false, false, false, false, false, false, false, false, false, false, false] (by kernel_rfl) rfl rfl ⟨k0, k1, k2, HA.out.drew, (below_drew (Below.refl _ _))⟩ (fun hHeld => ?_)
  refine pure_ (i := 0) (N := some 7) (v := ?_) (a' := ?_) #[true, false, false, false, false, false, false, false, false, false, false, false, false, false, false, false, false, false, false, false, false] rfl rfl (by kernel_rfl) (fun _ _ _ h => h) (Or.inl ⟨by rfl, ?_⟩) ?_ ?_
  rotate_left
  · intro w'
    go_simp
    with_reducible rfl
  rotate_left
  · simp only [Act.put, List.setIfInBounds_toArray, List.set_cons_zero, List.set_cons_succ, i64_w, i32_w]
    rfl
  refine pure_ (i := 1) (N := some 8) (v := ?_) (a' := ?_) #[true, true, false, false, false, false, false, false, false, false, false, false, false, false, false, false, false, false, false, false, false] rfl rfl (by kernel_rfl) (fun _ _ _ h => h) (Or.inl ⟨by rfl, ?_⟩) ?_ ?_
  rotate_left
  · intro w'
    go_simp
    with_reducible rfl
  rotate_left
  · simp only [Act.put, List.setIfInBounds_toArray, List.set_cons_zero, List.set_cons_succ, i64_w, i32_w]
    rfl
  refine pure_ (i := 2) (N := some 9) (v := ?_) (a' := ?_) #[true, true, true, false, false, false, false, false, false, false, false, false, false, false, false, false, false, false, false, false, false] rfl rfl (by kernel_rfl) (fun _ _ _ h => h) (Or.inl ⟨by rfl, ?_⟩) ?_ ?_
  rotate_left
  · intro w'
    go_simp
    with_reducible rfl
  rotate_left
  · simp only [Act.put, List.setIfInBounds_toArray, List.set_cons_zero, List.set_cons_succ, i64_w, i32_w]
    rfl
  refine pure_ (i := 5) (N := some 12) (v := ?_) (a' := ?_) #[true, true, true, false, false, true, false, false, false, false, false, false, false, false, false, false, false, false, false, false, false] rfl rfl (by kernel_rfl) (fun _ _ _ h => h) (Or.inl ⟨by rfl, ?_⟩) ?_ ?_
  rotate_left
  · intro w'
    go_simp
    with_reducible rfl
  rotate_left
  · simp only [Act.put, List.setIfInBounds_toArray, List.set_cons_zero, List.set_cons_succ, i64_w, i32_w]
    rfl
  refine pure_ (i := 6) (N := some 13) (v := ?_) (a' := ?_) #[true, true, true, false, false, true, true, false, false, false, false, false, false, false, false, false, false, false, false, false, false] rfl rfl (by kernel_rfl) (fun _ _ _ h => h) (Or.inl ⟨by rfl, ?_⟩) ?_ ?_
  rotate_left
  · intro w'
    go_simp
    with_reducible rfl
  rotate_left
  · simp only [Act.put, List.setIfInBounds_toArray, List.set_cons_zero, List.set_cons_succ, i64_w, i32_w]
    rfl
  refine pure_ (i := 7) (N := some 14) (v := ?_) (a' := ?_) #[true, true, true, false, false, true, true, true, false, false, false, false, false, false, false, false, false, false, false, false, false] rfl rfl (by kernel_rfl) (fun _ _ _ h => h) (Or.inl ⟨by rfl, ?_⟩) ?_ ?_
  rotate_left
  · intro w'
    go_simp
    with_reducible rfl
  rotate_left
  · simp only [Act.put, List.setIfInBounds_toArray, List.set_cons_zero, List.set_cons_succ, i64_w, i32_w]
    rfl
  refine pure_ (i := 10) (N := some 17) (v := ?_) (a' := ?_) #[true, true, true, false, false, true, true, true, false, false, true, false, false, false, false, false, false, false, false, false, false] rfl rfl (by kernel_rfl) (fun _ _ _ h => h) (Or.inl ⟨by rfl, ?_⟩) ?_ ?_
  rotate_left
  · intro w'
    go_simp
    with_reducible rfl
  rotate_left
  · simp only [Act.put, List.setIfInBounds_toArray, List.set_cons_zero, List.set_cons_succ, i64_w, i32_w]
    rfl
  refine pure_ (i := 11) (N := some 18) (v := ?_) (a' := ?_) #[true, true, true, false, false, true, true, true, false, false, true, true, false, false, false, false, false, false, false, false, false] rfl rfl (by kernel_rfl) (fun _ _ _ h => h) (Or.inl ⟨by rfl, ?_⟩) ?_ ?_
  rotate_left
  · intro w'
    go_simp
    with_reducible rfl
  rotate_left
  · simp only [Act.put, List.setIfInBounds_toArray, List.set_cons_zero, List.set_cons_succ, i64_w, i32_w]
    rfl
  refine pure_ (i := 12) (N := some 19) (v := ?_) (a' := ?_) #[true, true, true, false, false, true, true, true, false, false, true, true, true, false, false, false, false, false, false, false, false] rfl rfl (by kernel_rfl) (fun _ _ _ h => h) (Or.inl ⟨by rfl, ?_⟩) ?_ ?_
  rotate_left
  · intro w'
    go_simp
    with_reducible rfl
  rotate_left
  · simp only [Act.put, List.setIfInBounds_toArray, List.set_cons_zero, List.set_cons_succ, i64_w, i32_w]
    rfl
  refine take_ (i := 3) (N := some 10) (v := ?_) (a' := ?_) #[true, true, true, true, false, true, true, true, false, false, true, true, true, false, false, false, false, false, false, false, false] rfl rfl (by kernel_rfl) (fun _ _ _ h => h) (Or.inl ⟨by rfl, ?_⟩) hHeld ?_ ?_
  rotate_left
  · rintro w' ⟨s0, s1, s2, s3, s4⟩
    go_simp
    with_reducible rfl
  rotate_left
  · simp only [Act.put, List.setIfInBounds_toArray, List.set_cons_zero, List.set_cons_succ, i64_w, i32_w]
    rfl
  refine take_ (i := 8) (N := some 15) (v := ?_) (a' := ?_) #[true, true, true, true, false, true, true, true, true, false, true, true, true, false, false, false, false, false, false, false, false] rfl rfl (by kernel_rfl) (fun _ _ _ h => h) (Or.inl ⟨by rfl, ?_⟩) hHeld ?_ ?_
  rotate_left
  · rintro w' ⟨s0, s1, s2, s3, s4⟩
    go_simp
    with_reducible rfl
  rotate_left
  · simp only [Act.put, List.setIfInBounds_toArray, List.set_cons_zero, List.set_cons_succ, i64_w, i32_w]
    rfl
  refine take_ (i := 13) (N := some 20) (v := ?_) (a' := ?_) #[true, true, true, true, false, true, true, true, true, false, true, true, true, true, false, false, false, false, false, false, false] rfl rfl (by kernel_rfl) (fun _ _ _ h => h) (Or.inl ⟨by rfl, ?_⟩) hHeld ?_ ?_
  rotate_left
  · rintro w' ⟨s0, s1, s2, s3, s4⟩
    go_simp
    with_reducible rfl
  rotate_left
  · simp only [Act.put, List.setIfInBounds_toArray, List.set_cons_zero, List.set_cons_succ, i64_w, i32_w]
    rfl
  refine one_ (i := 4) (N := some 11) #[true, true, true, true, true, true, true, true, true, false, true, true, true, true, false, false, false, false, false, false, false] rfl rfl (by kernel_rfl) (by decide) (fun K hK => ?_)
  refine goes_ Try.func44 (by kernel_rfl) rfl #[.slice (some ⟨a.n, 0, none⟩) N a.cn] (by rfl) rfl rfl (by simp only [List.map_toArray, List.map_cons, List.map_nil]; rfl) ?_
  with_reducible refine (clone_secs_calls a.n N a.cn _ _ hN ln hHeld.2.2.2.1.srcN (nums_one _ _) hsm).mono ?_
  rintro e w3 ⟨g3, c3, t3, rfl, hh3, hg3, hb3⟩
  refine ⟨_, rfl, ?_⟩
  have hh := hHeld
  have hs3 := hh.2.2.2.2.size
  refine hK.out _ _ ⟨(pw_cell_below hb3 hh.1), (pw_cell_below hb3 hh.2.1), (pw_cell_below hb3 hh.2.2.1), (hh.2.2.2.1.after hb3), (below_step hh.2.2.2.2 hb3)⟩ (fun hHeld => ?_)
  clear hK K
  refine norm_ (a' := ?_) ?_ ?_
  rotate_left
  · show Act.put _ (some 11) _ = _
    simp only [Act.put, List.setIfInBounds_toArray, List.set_cons_zero, List.set_cons_succ, i64_w, i32_w]
    rfl
  refine one_ (i := 9) (N := some 16) #[true, true, true, true, true, true, true, true, true, true, true, true, true, true, false, false, false, false, false, false, false] rfl rfl (by kernel_rfl) (by decide) (fun K hK => ?_)
  refine goes_ Try.func44 (by kernel_rfl) rfl #[.slice (some ⟨a.o, 0, none⟩) N a.co] (by rfl) rfl rfl (by simp only [List.map_toArray, List.map_cons, List.map_nil]; rfl) ?_
  with_reducible refine (clone_secs_calls a.o N a.co _ _ hN lo hHeld.2.2.2.1.srcO (nums_one _ _) hsm).mono ?_
  rintro e w4 ⟨g4, c4, t4, rfl, hh4, hg4, hb4⟩
  refine ⟨_, rfl, ?_⟩
  have hh := hHeld
  have hs4 := hh.2.2.2.2.size
  refine hK.out _ _ ⟨(pw_cell_below hb4 hh.1), (pw_cell_below hb4 hh.2.1), (pw_cell_below hb4 hh.2.2.1), (hh.2.2.2.1.after hb4), (below_step hh.2.2.2.2 hb4)⟩ (fun hHeld => ?_)
  clear hK K
  refine norm_ (a' := ?_) ?_ ?_
  rotate_left
  · show Act.put _ (some 16) _ = _
    simp only [Act.put, List.setIfInBounds_toArray, List.set_cons_zero, List.set_cons_succ, i64_w, i32_w]
    rfl
  refine one_ (i := 14) (N := some 21) #[true, true, true, true, true, true, true, true, true, true, true, true, true, true, true, false, false, false, false, false, false] rfl rfl (by kernel_rfl) (by decide) (fun K hK => ?_)
  refine goes_ Try.func45 (by kernel_rfl) rfl #[.slice (some ⟨a.p, 0, none⟩) N a.cp] (by rfl) rfl rfl (by simp only [List.map_toArray, List.map_cons, List.map_nil]; rfl) ?_
  with_reducible refine (clone_bools_calls a.p N a.cp _ _ hN lp hHeld.2.2.2.1.srcP (bools_one _) hsm).mono ?_
  rintro e w5 ⟨g5, c5, t5, rfl, hh5, hg5, hb5⟩
  refine ⟨_, rfl, ?_⟩
  have hh := hHeld
  have hs5 := hh.2.2.2.2.size
  have hB5 := below_step hh.2.2.2.2 hb5
  have hd5 := (hB5.block w.heap.size (by omega)).trans hda
  have u0 := blk_cell hd5 0
  have u1 := blk_cell hd5 1
  have u2 := blk_cell hd5 2
  have v0 := blk_frozen hd5 0
  have v1 := blk_frozen hd5 1
  have v2 := blk_frozen hd5 2
  refine hK.out _ _ ⟨(pw_cell_below hb5 hh.1), (pw_cell_below hb5 hh.2.1), (pw_cell_below hb5 hh.2.2.1), (hh.2.2.2.1.after hb5), hB5⟩ (fun hHeld => ?_)
  clear hK K
  refine norm_ (a' := ?_) ?_ ?_
  rotate_left
  · show Act.put _ (some 21) _ = _
    simp only [Act.put, List.setIfInBounds_toArray, List.set_cons_zero, List.set_cons_succ, i64_w, i32_w]
    rfl
  refine pure_ (i := 15) (N := some 22) (v := ?_) (a' := ?_) #[true, true, true, true, true, true, true, true, true, true, true, true, true, true, true, true, false, false, false, false, false] rfl rfl (by kernel_rfl) (fun _ _ _ h => h) (Or.inl ⟨by rfl, ?_⟩) ?_ ?_
  rotate_left
  · intro w'
    go_simp
    with_reducible rfl
  rotate_left
  · simp only [Act.put, List.setIfInBounds_toArray, List.set_cons_zero, List.set_cons_succ, i64_w, i32_w]
    rfl
  refine last_ (i := 16) (N := none) #[true, true, true, true, true, true, true, true, true, true, true, true, true, true, true, true, true, false, false, false, false] rfl rfl (by kernel_rfl) (by decide) (fun K hK => ?_)
  refine skip_ (w1 := ?_) (by rfl) rfl ?_ ?_
  rotate_left
  · go_simp
    rfl
  refine hK.out _ _ ?_
  clear hK K
  refine pure_ (i := 17) (N := some 23) (v := ?_) (a' := ?_) #[true, true, true, true, true, true, true, true, true, true, true, true, true, true, true, true, true, true, false, false, false] rfl rfl (by kernel_rfl) (fun _ _ _ h => h) (Or.inl ⟨by rfl, ?_⟩) ?_ ?_
  rotate_left
  · intro w'
    go_simp
    with_reducible rfl
  rotate_left
  · simp only [Act.put, List.setIfInBounds_toArray, List.set_cons_zero, List.set_cons_succ, i64_w, i32_w]
    rfl
  refine last_ (i := 18) (N := none) #[true, true, true, true, true, true, true, true, true, true, true, true, true, true, true, true, true, true, true, false, false] rfl rfl (by kernel_rfl) (by decide) (fun K hK => ?_)
  refine skip_ (w1 := ?_) (by rfl) rfl ?_ ?_
  rotate_left
  · go_simp
    rfl
  refine hK.out _ _ ?_
  clear hK K
  refine pure_ (i := 19) (N := some 24) (v := ?_) (a' := ?_) #[true, true, true, true, true, true, true, true, true, true, true, true, true, true, true, true, true, true, true, true, false] rfl rfl (by kernel_rfl) (fun _ _ _ h => h) (Or.inl ⟨by rfl, ?_⟩) ?_ ?_
  rotate_left
  · intro w'
    go_simp
    with_reducible rfl
  rotate_left
  · simp only [Act.put, List.setIfInBounds_toArray, List.set_cons_zero, List.set_cons_succ, i64_w, i32_w]
    rfl
  refine last_ (i := 20) (N := none) #[true, true, true, true, true, true, true, true, true, true, true, true, true, true, true, true, true, true, true, true, true] rfl rfl (by kernel_rfl) (by decide) (fun K hK => ?_)
  refine skip_ (w1 := ?_) (by rfl) rfl ?_ ?_
  rotate_left
  · go_simp
    rfl
  refine hK.out _ _ ?_
  clear hK K
  refine done_ (by kernel_rfl) ?_
  go_wp2
  go_ret
  have hlt3 := blk_lt hh3
  have hlt4 := blk_lt hh4
  have hlt5 := blk_lt hh5
  have e3 := (hb5.block g3 (by have := hb4.size; omega)).trans ((hb4.block g3 hlt3).trans hh3)
  have e4 := (hb5.block g4 hlt4).trans hh4
  have d1 := blk_set hd5 0 (.slice (some ⟨g3, 0, none⟩) N c3)
  have d2 := blk_set d1 1 (.slice (some ⟨g4, 0, none⟩) N c4)
  have d3 := blk_set d2 2 (.slice (some ⟨g5, 0, none⟩) N c5)
  have n3 : w.heap.size ≠ g3 := by omega
  have n4 : w.heap.size ≠ g4 := by omega
  have n5 : w.heap.size ≠ g5 := by have := hb3.size; have := hb4.size; omega
  refine ⟨⟨w.heap.size, g3, g4, g5, c3, c4, c5, t3, t4, t5⟩, rfl, ⟨?_, ?_, ?_, ?_, ?_, H.out.ok⟩, ?_, ?_⟩
  · exact d3
  · exact blk_far (blk_far (blk_far e3 (p := ⟨w.heap.size, 0, none⟩) n3.symm _) (p := ⟨w.heap.size, 1, none⟩) n3.symm _) (p := ⟨w.heap.size, 2, none⟩) n3.symm _
  · exact blk_far (blk_far (blk_far e4 (p := ⟨w.heap.size, 0, none⟩) n4.symm _) (p := ⟨w.heap.size, 1, none⟩) n4.symm _) (p := ⟨w.heap.size, 2, none⟩) n4.symm _
  · exact blk_far (blk_far (blk_far hh5 (p := ⟨w.heap.size, 0, none⟩) n5.symm _) (p := ⟨w.heap.size, 1, none⟩) n5.symm _) (p := ⟨w.heap.size, 2, none⟩) n5.symm _
  · show g3 ≠ g4
    omega
  · intro i hi
    have z3 := hb3.size
    have z4 := hb4.size
    rcases hi with h | h | h | h
    all_goals
      simp only at h
      omega
  · exact below_set (below_set (below_set (hba.trans (hB5.mono (by omega))) (Nat.le_refl _)) (Nat.le_refl _)) (Nat.le_refl _)
end Go.Proofs.Ytcgmnmohpkolmaa
