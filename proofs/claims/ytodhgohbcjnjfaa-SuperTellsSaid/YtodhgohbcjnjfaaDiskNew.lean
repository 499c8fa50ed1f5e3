/- Disk's New: all bytes are 0. -/
import Derived.Test.YtodhgohbcjnjfaaDiskPend
namespace Go.Proofs.Ytodhgohbcjnjfaa
open Go.RowKit Go.Proofs.YtodhgohbcjnjfaaW.PrintWords Go.Proofs.YtodhgohbcjnjfaaW.PrintLast Go.Proofs.YtodhgohbcjnjfaaW.PrintMore
set_option linter.unusedVariables false
set_option linter.unusedSimpArgs false
def zero64 : Value := .agg (Array.replicate 64 (.int .u8 0))
theorem infoS' : (Try.prog.info? 140).map (fun i => (i.zero, i.size, i.bytes)) = some (some zero64, 64, 64) := by kernel_rfl
theorem infoBool : (Try.prog.info? 4).map (fun i => (i.zero, i.size, i.bytes)) = some (some (.bool false), 1, 1) := by kernel_rfl
theorem zero64_cells : zero64.cells = Array.replicate 64 (.int .u8 0) := by kernel_rfl
theorem made_sec (n : Nat) : madeCells zero64.cells n = (nums .u8 (List.replicate n 0)).toArray := by
  apply Array.toList_inj.1
  apply List.ext_getElem?
  intro i
  rw [zero64_cells]
  simp only [madeCells, nums, List.map_replicate, List.getElem?_replicate, Array.toList_map, Array.toList_range, List.getElem?_map, Array.size_replicate, List.toList_toArray]
  by_cases h : i < n
  · rw [List.getElem?_range h, if_pos h]
    simp only [Option.map_some]
    congr 1
    have hm : i % 64 < 64 := Nat.mod_lt _ (by decide)
    rw [getElem!_pos _ _ (by simpa using hm)]
    simp
  · rw [List.getElem?_eq_none (by simpa using h), if_neg h]
    rfl
theorem made_bool (n : Nat) : madeCells (Value.bool false).cells (n * 1) = (bools (List.replicate n false)).toArray := by
  apply Array.toList_inj.1
  rw [show (Value.bool false).cells = #[Value.bool false] from rfl, toList_madeCells_one]
  simp [bools]
theorem flat_zero (n : Nat) : (List.replicate n (List.replicate 64 (0 : Int))).flatten = List.replicate (n * 64) 0 := by
  induction n with
  | zero => rfl
  | succ n ih =>
    rw [List.replicate_succ, List.flatten_cons, ih, List.replicate_append_replicate]
    congr 1
    omega
def newDS (n : Nat) : DS := { now := List.replicate n (List.replicate 64 0), old := List.replicate n (List.replicate 64 0), pend := List.replicate n false, dead := false, lit := false, left := 0 }
theorem newDS_ok (n : Nat) (h : n ≤ 1024) : (newDS n).ok n := by
  have hs : Secs n (List.replicate n (List.replicate 64 (0 : Int))) := ⟨by simp, fun x hx => by
    have := List.eq_of_mem_replicate hx
    subst this
    exact ⟨by simp, fun y hy => by have := List.eq_of_mem_replicate hy; omega⟩⟩
  exact ⟨hs, hs, by simp [newDS], h, by simp [newDS], by simp [newDS]⟩
theorem heap3 (W : World) (o1 o2 o3 : Obj) : (((W.alloc o1).alloc o2).alloc o3).heap[W.heap.size]? = some o1 ∧ (((W.alloc o1).alloc o2).alloc o3).heap[W.heap.size + 1]? = some o2 ∧ (((W.alloc o1).alloc o2).alloc o3).heap[W.heap.size + 1 + 1]? = some o3 := by
  have a1 := heap_alloc_new W o1
  have a2 := heap_alloc_new (W.alloc o1) o2
  have a3 := heap_alloc_new ((W.alloc o1).alloc o2) o3
  have s1 : (W.alloc o1).heap.size = W.heap.size + 1 := by simp
  have s2 : ((W.alloc o1).alloc o2).heap.size = W.heap.size + 2 := by simp
  rw [s1] at a2
  rw [s2] at a3
  refine ⟨?_, ?_, a3⟩
  · rw [Below.heap_alloc _ _ _ (by rw [s2]; omega), Below.heap_alloc _ _ _ (by rw [s1]; omega)]
    exact a1
  · rw [Below.heap_alloc _ _ _ (by rw [s2]; omega)]
    exact a2
set_option maxRecDepth 100000
set_option maxHeartbeats 4000000 in
theorem new_calls (n : Nat) (ni : Int) (hni : ni = n) (w : World) (h0 : 0 < n) (h1 : n < 1024) :
    Calls Try.prog 34 #[.int .i64 ni] w fun e w' => ∃ a, e = .returned (.pointer (some ⟨a.d, 0, none⟩)) ∧ Dsk w' a n (newDS n) ∧ (∀ i, a.has i → w.heap.size ≤ i) ∧ Below w.heap.size w w' := by
  subst hni
  obtain ⟨i0, hi0, hz0, hz1, hz2⟩ := info_parts infoS'
  obtain ⟨i1, hi1, hy0, hy1, hy2⟩ := info_parts infoBool
  have hmk := fun W : World => run_make (P := Try.prog) W 135 140 i0 zero64 Try.underlying135 hi0 hz0 .i64 .i64 (n : Int) (n : Int) (by omega) (by omega) (by rw [hz2]; omega) (by omega)
  have hmb := fun W : World => run_make (P := Try.prog) W 136 4 i1 (.bool false) Try.underlying136 hi1 hy0 .i64 .i64 (n : Int) (n : Int) (by omega) (by omega) (by rw [hy2]; omega) (by omega)
  rw [hz1] at hmk
  rw [hy1] at hmb
  simp only [Int.toNat_natCast, made_sec, made_bool] at hmk hmb
  have j0 : (0 : Int) < (n : Int) := by omega
  have j1 : (n : Int) < 1024 := by omega
  have HOK := Aside0.mk (newDS_ok n (by omega))
  have HZ := Aside0.mk (flat_zero n)
  clear hi0 hz0 hz1 hz2 hi1 hy0 hy1 hy2
  generalize hZ1 : (nums .u8 (List.replicate (n * 64) 0)).toArray = Z1 at *
  generalize hZ2 : (bools (List.replicate n false)).toArray = Z2 at *
  have HZ1 := Aside0.mk hZ1
  have HZ2 := Aside0.mk hZ2
  clear hZ1 hZ2
  go_enter Try.func34, Try.ntmps34
  go_wp2
  refine start_ (n := 9) (S := fun w' => True) (ds := []) #[false, false, false, false, false, false, false, false, false] (by kernel_rfl) rfl rfl trivial (fun hHeld => ?_)
  refine pure_ (i := 0) (N := some 7) (v := ?_) (a' := ?_) #[true, false, false, false, false, false, false, false, false] rfl rfl (by kernel_rfl) (fun _ _ _ h => h) (Or.inl ⟨by rfl, ?_⟩) ?_ ?_
  rotate_left
  · intro w'
    go_simp
    with_reducible rfl
  rotate_left
  · simp only [Act.put, List.setIfInBounds_toArray, List.set_cons_zero, List.set_cons_succ, i64_w, i32_w]
    rfl
  refine pure_ (i := 2) (N := some 9) (v := ?_) (a' := ?_) #[true, false, true, false, false, false, false, false, false] rfl rfl (by kernel_rfl) (fun _ _ _ h => h) (Or.inl ⟨by rfl, ?_⟩) ?_ ?_
  rotate_left
  · intro w'
    go_simp
    with_reducible rfl
  rotate_left
  · simp only [Act.put, List.setIfInBounds_toArray, List.set_cons_zero, List.set_cons_succ, i64_w, i32_w]
    rfl
  refine pure_ (i := 4) (N := some 11) (v := ?_) (a' := ?_) #[true, false, true, false, true, false, false, false, false] rfl rfl (by kernel_rfl) (fun _ _ _ h => h) (Or.inl ⟨by rfl, ?_⟩) ?_ ?_
  rotate_left
  · intro w'
    go_simp
    with_reducible rfl
  rotate_left
  · simp only [Act.put, List.setIfInBounds_toArray, List.set_cons_zero, List.set_cons_succ, i64_w, i32_w]
    rfl
  refine join_ (σ := Nat × Nat × Nat) 3 #[true, true, true, true, true, true, false, false, false] (fun s => [(8, .slice (some ⟨s.1, 0, none⟩) n n), (10, .slice (some ⟨s.2.1, 0, none⟩) n n), (12, .slice (some ⟨s.2.2, 0, none⟩) n n)]) (fun s w' => w'.heap[s.1]? = some (.cells Z1 140 (0, 0)) ∧ w'.heap[s.2.1]? = some (.cells Z1 140 (0, 0)) ∧ w'.heap[s.2.2]? = some (.cells Z2 4 (0, 0)) ∧ s.1 ≠ s.2.1 ∧ w.heap.size ≤ s.1 ∧ w.heap.size ≤ s.2.1 ∧ w.heap.size ≤ s.2.2 ∧ Below w.heap.size w w') ?_ ?_
  rotate_left
  · intro hCont
    refine three_ (i := 1) (j := 3) (k := 5) (Ni := some 8) (Nj := some 10) (Nk := some 12) #[true, true, true, false, true, false, false, false, false] #[true, false, true, true, true, false, false, false, false] #[true, false, true, false, true, true, false, false, false] rfl rfl rfl rfl rfl rfl (by kernel_rfl) (by decide) (by decide) (by decide) (fun K hK => ?_) (fun K hK => ?_) (fun K hK => ?_)
    · skip
      refine value_ (w1 := ?_) (v := ?_) (by rfl) rfl ?_ ?_
      rotate_left 2
      · go_simp
        constructor
        · rfl
        · rfl
      refine hK.out _ _ trivial (fun hHeld => ?_)
      clear hK K
      refine norm_ (a' := ?_) ?_ ?_
      rotate_left
      · show Act.put _ (some 8) _ = _
        simp only [Act.put, List.setIfInBounds_toArray, List.set_cons_zero, List.set_cons_succ, i64_w, i32_w]
        rfl
      refine two_ (i := 3) (j := 5) (Ni := some 10) (Nj := some 12) #[true, true, true, true, true, false, false, false, false] #[true, true, true, false, true, true, false, false, false] rfl rfl rfl rfl (by kernel_rfl) (by decide) (by decide) (fun K hK => ?_) (fun K hK => ?_)
      · skip
        refine value_ (w1 := ?_) (v := ?_) (by rfl) rfl ?_ ?_
        rotate_left 2
        · go_simp
          constructor
          · rfl
          · rfl
        refine hK.out _ _ trivial (fun hHeld => ?_)
        clear hK K
        refine norm_ (a' := ?_) ?_ ?_
        rotate_left
        · show Act.put _ (some 10) _ = _
          simp only [Act.put, List.setIfInBounds_toArray, List.set_cons_zero, List.set_cons_succ, i64_w, i32_w]
          rfl
        refine one_ (i := 5) (N := some 12) #[true, true, true, true, true, true, false, false, false] rfl rfl (by kernel_rfl) (by decide) (fun K hK => ?_)
        refine value_ (w1 := ?_) (v := ?_) (by rfl) rfl ?_ ?_
        rotate_left 2
        · go_simp
          constructor
          · rfl
          · rfl
        refine hK.out _ _ trivial (fun hHeld => ?_)
        clear hK K
        refine norm_ (a' := ?_) ?_ ?_
        rotate_left
        · show Act.put _ (some 12) _ = _
          simp only [Act.put, List.setIfInBounds_toArray, List.set_cons_zero, List.set_cons_succ, i64_w, i32_w]
          rfl
        exact norm_ (by simp only [putAll, Act.put, List.setIfInBounds_toArray, List.set_cons_zero, List.set_cons_succ]) (hCont (w.heap.size, w.heap.size + 1, w.heap.size + 1 + 1) _ ⟨(heap3 w.drew _ _ _).1, (heap3 w.drew _ _ _).2.1, (heap3 w.drew _ _ _).2.2, by simp <;> omega, by simp <;> omega, by simp <;> omega, by simp <;> omega, below_alloc (below_alloc (below_alloc (below_drew (Below.refl _ _)) _) _) _⟩)
      · skip
        refine value_ (w1 := ?_) (v := ?_) (by rfl) rfl ?_ ?_
        rotate_left 2
        · go_simp
          constructor
          · rfl
          · rfl
        refine hK.out _ _ trivial (fun hHeld => ?_)
        clear hK K
        refine norm_ (a' := ?_) ?_ ?_
        rotate_left
        · show Act.put _ (some 12) _ = _
          simp only [Act.put, List.setIfInBounds_toArray, List.set_cons_zero, List.set_cons_succ, i64_w, i32_w]
          rfl
        refine one_ (i := 3) (N := some 10) #[true, true, true, true, true, true, false, false, false] rfl rfl (by kernel_rfl) (by decide) (fun K hK => ?_)
        refine value_ (w1 := ?_) (v := ?_) (by rfl) rfl ?_ ?_
        rotate_left 2
        · go_simp
          constructor
          · rfl
          · rfl
        refine hK.out _ _ trivial (fun hHeld => ?_)
        clear hK K
        refine norm_ (a' := ?_) ?_ ?_
        rotate_left
        · show Act.put _ (some 10) _ = _
          simp only [Act.put, List.setIfInBounds_toArray, List.set_cons_zero, List.set_cons_succ, i64_w, i32_w]
          rfl
        exact norm_ (by simp only [putAll, Act.put, List.setIfInBounds_toArray, List.set_cons_zero, List.set_cons_succ]) (hCont (w.heap.size, w.heap.size + 1 + 1, w.heap.size + 1) _ ⟨(heap3 w.drew _ _ _).1, (heap3 w.drew _ _ _).2.2, (heap3 w.drew _ _ _).2.1, by simp <;> omega, by simp <;> omega, by simp <;> omega, by simp <;> omega, below_alloc (below_alloc (below_alloc (below_drew (Below.refl _ _)) _) _) _⟩)
    · skip
      refine value_ (w1 := ?_) (v := ?_) (by rfl) rfl ?_ ?_
      rotate_left 2
      · go_simp
        constructor
        · rfl
        · rfl
      refine hK.out _ _ trivial (fun hHeld => ?_)
      clear hK K
      refine norm_ (a' := ?_) ?_ ?_
      rotate_left
      · show Act.put _ (some 10) _ = _
        simp only [Act.put, List.setIfInBounds_toArray, List.set_cons_zero, List.set_cons_succ, i64_w, i32_w]
        rfl
      refine two_ (i := 1) (j := 5) (Ni := some 8) (Nj := some 12) #[true, true, true, true, true, false, false, false, false] #[true, false, true, true, true, true, false, false, false] rfl rfl rfl rfl (by kernel_rfl) (by decide) (by decide) (fun K hK => ?_) (fun K hK => ?_)
      · skip
        refine value_ (w1 := ?_) (v := ?_) (by rfl) rfl ?_ ?_
        rotate_left 2
        · go_simp
          constructor
          · rfl
          · rfl
        refine hK.out _ _ trivial (fun hHeld => ?_)
        clear hK K
        refine norm_ (a' := ?_) ?_ ?_
        rotate_left
        · show Act.put _ (some 8) _ = _
          simp only [Act.put, List.setIfInBounds_toArray, List.set_cons_zero, List.set_cons_succ, i64_w, i32_w]
          rfl
        refine one_ (i := 5) (N := some 12) #[true, true, true, true, true, true, false, false, false] rfl rfl (by kernel_rfl) (by decide) (fun K hK => ?_)
        refine value_ (w1 := ?_) (v := ?_) (by rfl) rfl ?_ ?_
        rotate_left 2
        · go_simp
          constructor
          · rfl
          · rfl
        refine hK.out _ _ trivial (fun hHeld => ?_)
        clear hK K
        refine norm_ (a' := ?_) ?_ ?_
        rotate_left
        · show Act.put _ (some 12) _ = _
          simp only [Act.put, List.setIfInBounds_toArray, List.set_cons_zero, List.set_cons_succ, i64_w, i32_w]
          rfl
        exact norm_ (by simp only [putAll, Act.put, List.setIfInBounds_toArray, List.set_cons_zero, List.set_cons_succ]) (hCont (w.heap.size + 1, w.heap.size, w.heap.size + 1 + 1) _ ⟨(heap3 w.drew _ _ _).2.1, (heap3 w.drew _ _ _).1, (heap3 w.drew _ _ _).2.2, by simp <;> omega, by simp <;> omega, by simp <;> omega, by simp <;> omega, below_alloc (below_alloc (below_alloc (below_drew (Below.refl _ _)) _) _) _⟩)
      · skip
        refine value_ (w1 := ?_) (v := ?_) (by rfl) rfl ?_ ?_
        rotate_left 2
        · go_simp
          constructor
          · rfl
          · rfl
        refine hK.out _ _ trivial (fun hHeld => ?_)
        clear hK K
        refine norm_ (a' := ?_) ?_ ?_
        rotate_left
        · show Act.put _ (some 12) _ = _
          simp only [Act.put, List.setIfInBounds_toArray, List.set_cons_zero, List.set_cons_succ, i64_w, i32_w]
          rfl
        refine one_ (i := 1) (N := some 8) #[true, true, true, true, true, true, false, false, false] rfl rfl (by kernel_rfl) (by decide) (fun K hK => ?_)
        refine value_ (w1 := ?_) (v := ?_) (by rfl) rfl ?_ ?_
        rotate_left 2
        · go_simp
          constructor
          · rfl
          · rfl
        refine hK.out _ _ trivial (fun hHeld => ?_)
        clear hK K
        refine norm_ (a' := ?_) ?_ ?_
        rotate_left
        · show Act.put _ (some 8) _ = _
          simp only [Act.put, List.setIfInBounds_toArray, List.set_cons_zero, List.set_cons_succ, i64_w, i32_w]
          rfl
        exact norm_ (by simp only [putAll, Act.put, List.setIfInBounds_toArray, List.set_cons_zero, List.set_cons_succ]) (hCont (w.heap.size + 1 + 1, w.heap.size, w.heap.size + 1) _ ⟨(heap3 w.drew _ _ _).2.2, (heap3 w.drew _ _ _).1, (heap3 w.drew _ _ _).2.1, by simp <;> omega, by simp <;> omega, by simp <;> omega, by simp <;> omega, below_alloc (below_alloc (below_alloc (below_drew (Below.refl _ _)) _) _) _⟩)
    · skip
      refine value_ (w1 := ?_) (v := ?_) (by rfl) rfl ?_ ?_
      rotate_left 2
      · go_simp
        constructor
        · rfl
        · rfl
      refine hK.out _ _ trivial (fun hHeld => ?_)
      clear hK K
      refine norm_ (a' := ?_) ?_ ?_
      rotate_left
      · show Act.put _ (some 12) _ = _
        simp only [Act.put, List.setIfInBounds_toArray, List.set_cons_zero, List.set_cons_succ, i64_w, i32_w]
        rfl
      refine two_ (i := 1) (j := 3) (Ni := some 8) (Nj := some 10) #[true, true, true, false, true, true, false, false, false] #[true, false, true, true, true, true, false, false, false] rfl rfl rfl rfl (by kernel_rfl) (by decide) (by decide) (fun K hK => ?_) (fun K hK => ?_)
      · skip
        refine value_ (w1 := ?_) (v := ?_) (by rfl) rfl ?_ ?_
        rotate_left 2
        · go_simp
          constructor
          · rfl
          · rfl
        refine hK.out _ _ trivial (fun hHeld => ?_)
        clear hK K
        refine norm_ (a' := ?_) ?_ ?_
        rotate_left
        · show Act.put _ (some 8) _ = _
          simp only [Act.put, List.setIfInBounds_toArray, List.set_cons_zero, List.set_cons_succ, i64_w, i32_w]
          rfl
        refine one_ (i := 3) (N := some 10) #[true, true, true, true, true, true, false, false, false] rfl rfl (by kernel_rfl) (by decide) (fun K hK => ?_)
        refine value_ (w1 := ?_) (v := ?_) (by rfl) rfl ?_ ?_
        rotate_left 2
        · go_simp
          constructor
          · rfl
          · rfl
        refine hK.out _ _ trivial (fun hHeld => ?_)
        clear hK K
        refine norm_ (a' := ?_) ?_ ?_
        rotate_left
        · show Act.put _ (some 10) _ = _
          simp only [Act.put, List.setIfInBounds_toArray, List.set_cons_zero, List.set_cons_succ, i64_w, i32_w]
          rfl
        exact norm_ (by simp only [putAll, Act.put, List.setIfInBounds_toArray, List.set_cons_zero, List.set_cons_succ]) (hCont (w.heap.size + 1, w.heap.size + 1 + 1, w.heap.size) _ ⟨(heap3 w.drew _ _ _).2.1, (heap3 w.drew _ _ _).2.2, (heap3 w.drew _ _ _).1, by simp <;> omega, by simp <;> omega, by simp <;> omega, by simp <;> omega, below_alloc (below_alloc (below_alloc (below_drew (Below.refl _ _)) _) _) _⟩)
      · skip
        refine value_ (w1 := ?_) (v := ?_) (by rfl) rfl ?_ ?_
        rotate_left 2
        · go_simp
          constructor
          · rfl
          · rfl
        refine hK.out _ _ trivial (fun hHeld => ?_)
        clear hK K
        refine norm_ (a' := ?_) ?_ ?_
        rotate_left
        · show Act.put _ (some 10) _ = _
          simp only [Act.put, List.setIfInBounds_toArray, List.set_cons_zero, List.set_cons_succ, i64_w, i32_w]
          rfl
        refine one_ (i := 1) (N := some 8) #[true, true, true, true, true, true, false, false, false] rfl rfl (by kernel_rfl) (by decide) (fun K hK => ?_)
        refine value_ (w1 := ?_) (v := ?_) (by rfl) rfl ?_ ?_
        rotate_left 2
        · go_simp
          constructor
          · rfl
          · rfl
        refine hK.out _ _ trivial (fun hHeld => ?_)
        clear hK K
        refine norm_ (a' := ?_) ?_ ?_
        rotate_left
        · show Act.put _ (some 8) _ = _
          simp only [Act.put, List.setIfInBounds_toArray, List.set_cons_zero, List.set_cons_succ, i64_w, i32_w]
          rfl
        exact norm_ (by simp only [putAll, Act.put, List.setIfInBounds_toArray, List.set_cons_zero, List.set_cons_succ]) (hCont (w.heap.size + 1 + 1, w.heap.size + 1, w.heap.size) _ ⟨(heap3 w.drew _ _ _).2.2, (heap3 w.drew _ _ _).2.1, (heap3 w.drew _ _ _).1, by simp <;> omega, by simp <;> omega, by simp <;> omega, by simp <;> omega, below_alloc (below_alloc (below_alloc (below_drew (Below.refl _ _)) _) _) _⟩)
  rintro ⟨gn, go, gp⟩ w' ⟨f1, f2, f3, f4, f5, f6, f7, f8⟩
  have hHeld : True := trivial
  refine norm_ (a' := ?_) ?_ ?_
  rotate_left
  · simp only [putAll, Act.put, List.setIfInBounds_toArray, List.set_cons_zero, List.set_cons_succ]
    rfl
  refine pure_ (i := 6) (N := some 13) (v := ?_) (a' := ?_) #[true, true, true, true, true, true, true, false, false] rfl rfl (by kernel_rfl) (fun _ _ _ h => h) (Or.inl ⟨by rfl, ?_⟩) ?_ ?_
  rotate_left
  · intro w'
    go_simp
    with_reducible rfl
  rotate_left
  · simp only [Act.put, List.setIfInBounds_toArray, List.set_cons_zero, List.set_cons_succ, i64_w, i32_w]
    rfl
  refine one_ (i := 7) (N := some 14) #[true, true, true, true, true, true, true, true, false] rfl rfl (by kernel_rfl) (by decide) (fun K hK => ?_)
  refine value_ (w1 := ?_) (v := ?_) (by rfl) rfl ?_ ?_
  rotate_left 2
  · go_simp
    constructor
    · rfl
    · rfl
  refine hK.out _ _ trivial (fun hHeld => ?_)
  clear hK K
  refine norm_ (a' := ?_) ?_ ?_
  rotate_left
  · show Act.put _ (some 14) _ = _
    simp only [Act.put, List.setIfInBounds_toArray, List.set_cons_zero, List.set_cons_succ, i64_w, i32_w]
    rfl
  refine pure_ (i := 8) (N := some 2) (v := ?_) (a' := ?_) #[true, true, true, true, true, true, true, true, true] rfl rfl (by kernel_rfl) (fun _ _ _ h => h) (Or.inl ⟨by rfl, ?_⟩) ?_ ?_
  rotate_left
  · intro w'
    go_simp
    with_reducible rfl
  rotate_left
  · simp only [Act.put, List.setIfInBounds_toArray, List.set_cons_zero, List.set_cons_succ, i64_w, i32_w]
    rfl
  refine done_ (by kernel_rfl) ?_
  go_wp2
  go_ret
  have hlt1 := blk_lt f1
  have hlt2 := blk_lt f2
  have hlt3 := blk_lt f3
  refine ⟨⟨w'.heap.size, gn, go, gp, n, n, n, [], [], []⟩, rfl, ?_, ?_, below_alloc f8 _⟩
  · refine ⟨heap_alloc_new w' _, ?_, ?_, ?_, f4, HOK.out⟩
    · rw [Below.heap_alloc _ _ _ hlt1, f1, ← HZ1.out]
      show _ = some (Obj.cells (nums .u8 (List.replicate n (List.replicate 64 (0 : Int))).flatten ++ []).toArray _ _)
      rw [List.append_nil, HZ.out]
    · rw [Below.heap_alloc _ _ _ hlt2, f2, ← HZ1.out]
      show _ = some (Obj.cells (nums .u8 (List.replicate n (List.replicate 64 (0 : Int))).flatten ++ []).toArray _ _)
      rw [List.append_nil, HZ.out]
    · rw [Below.heap_alloc _ _ _ hlt3, f3, ← HZ2.out]
      show _ = some (Obj.cells (bools (List.replicate n false) ++ []).toArray _ _)
      rw [List.append_nil]
  · intro i hi
    have := f8.size
    rcases hi with rfl | rfl | rfl | rfl
    · simpa using this
    · exact f5
    · exact f6
    · exact f7
end Go.Proofs.Ytodhgohbcjnjfaa
