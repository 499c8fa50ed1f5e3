/- The built-in copy and clear on rows of any element size, and what they leave of a disk; settle, Size, Dead. -/
import Derived.Test.YtodhgohbcjnjfaaDiskState
import Derived.Test.YtodhgohbcjnjfaaObs
import Derived.Laws.CopyRow
namespace Go.Proofs.Ytodhgohbcjnjfaa
open Go.RowKit Go.Proofs.YtodhgohbcjnjfaaW.PrintWords Go.Proofs.YtodhgohbcjnjfaaW.PrintLast Go.Proofs.YtodhgohbcjnjfaaW.PrintMore
set_option linter.unusedVariables false
set_option linter.unusedSimpArgs false
theorem run_copy_sz {P : Program} (w : World) (dT sT ty elem : TypeId) (sz g o dLen dCap : Nat) (a : Addr) (sLen sCap : Nat) (cur : Array Value) (t : TypeId) (cs : List Value)
    (hu : P.underlying dT = some (.slice elem)) (hs : (P.info? elem).map (·.size) = some sz)
    (hg : w.heap[g]? = some (.cells cur t (0, 0))) (hn : cs.length = Nat.min sLen dLen * sz)
    (hsrc : ∀ j v, cs[j]? = some v → w.cell? (a.add j) = some v) (hfit : o + cs.length ≤ cur.size) (h1 : ∀ v ∈ cs, v.oneCell' = true) :
    (Builtin.copy_ #[dT, sT] ty #[.slice (some ⟨g, o, none⟩) dLen dCap, .slice (some a) sLen sCap]).run P w =
      .ok (goInt ((Nat.min sLen dLen : Nat) : Int)) (w.setRow g (cur.toList.take o ++ cs ++ cur.toList.drop (o + cs.length)).toArray) := by
  have hl := run_loadCells_list (P := P) w a cs hsrc
  have hst := run_storeCells_at P g o t cs 0 cur w hg (by simpa using hfit) h1
  cases hq : P.info? elem with
  | none => simp [hq] at hs
  | some i =>
    have hi : i.size = sz := by simpa [hq] using hs
    simp [Builtin.copy_, run_underlying hu, Builtin.lenOf, Builtin.firstCells, sizeOf, typeInfo, hq, hi, ← hn, hl, hst]
theorem run_clear_row {P : Program} (w : World) (t ty elem : TypeId) (z : Value) (g n c : Nat) (cur : Array Value) (tt : TypeId)
    (hu : P.underlying t = some (.slice elem)) (hz : ∀ W, (zeroValue elem).run P W = .ok z W) (hg : w.heap[g]? = some (.cells cur tt (0, 0))) (hn : (Builtin.zeroCells z.cells n).size ≤ cur.size) (hp : 0 < n)
    (h1 : ∀ v ∈ (Builtin.zeroCells z.cells n).toList, v.oneCell' = true) :
    (Builtin.clear_ #[t] ty #[.slice (some ⟨g, 0, none⟩) n c]).run P w = .ok (.tuple #[]) (w.setRow g ((Builtin.zeroCells z.cells n).toList ++ cur.toList.drop (Builtin.zeroCells z.cells n).size).toArray) := by
  have hst := run_storeCells_at P g 0 tt (Builtin.zeroCells z.cells n).toList 0 cur w hg (by simpa using hn) h1
  obtain ⟨n, rfl⟩ : ∃ m, n = m + 1 := ⟨n - 1, by omega⟩
  simp only [Nat.zero_add, Nat.add_zero, Array.length_toList] at hst
  simp [Builtin.clear_, run_underlying hu, hz, hst]
theorem But.setRow {S : Nat → Prop} {w w1 : World} (h : But S w w1) {g : Nat} (hp : S g) (cs : Array Value) : But S w (w1.setRow g cs) :=
  ⟨h.os, h.tape, h.output, by simp [World.setRow]; exact h.size, fun i hi hs => by
    rw [setRow_other w1 g i cs (fun e => hs (e ▸ hp))]
    exact h.block i hi hs⟩
theorem zero_bools (n : Nat) : Builtin.zeroCells (Value.bool false).cells n = (bools (List.replicate n false)).toArray := by
  apply Array.toList_inj.1
  apply List.ext_getElem?
  intro i
  simp [Builtin.zeroCells, Value.cells, bools, List.getElem?_replicate, Nat.mod_one]
  by_cases h : i < n <;> simp [h]
theorem flat_length {L : List (List Int)} {n : Nat} (h : Secs n L) : L.flatten.length = n * 64 := by
  obtain ⟨hl, hs⟩ := h
  subst hl
  induction L with
  | nil => rfl
  | cons x L ih =>
    rw [List.flatten_cons, List.length_append, (hs x (by simp)).1, ih (fun y hy => hs y (by simp [hy])), List.length_cons]
    omega
/-- Held. -/
def DS.settled (s : DS) : DS := { s with old := s.now, pend := List.replicate s.pend.length false }
theorem infoS : (Try.prog.info? 140).map (·.size) = some 64 := by kernel_rfl
theorem zeroB (W : World) : (zeroValue 4).run Try.prog W = .ok (.bool false) W := by kernel_rfl
section
variable {w : World} {a : DA} {N : Nat} {s : DS}
/-- then := now -/
theorem Dsk.setOld (h : Dsk w a N s) : Dsk (w.setRow a.o (nums .u8 s.now.flatten ++ a.t_o).toArray) a N { s with old := s.now } := by
  refine ⟨?_, ?_, ?_, ?_, h.hno, ⟨h.ok.now, h.ok.now, h.ok.pend, h.ok.small, h.ok.left0, h.ok.left1⟩⟩
  · rw [setRow_other _ _ _ _ h.d_o]; exact h.hd
  · rw [setRow_other _ _ _ _ h.hno]; exact h.hn
  · exact setRow_heap _ _ _ _ _ _ h.ho
  · rw [setRow_other _ _ _ _ h.op.symm]; exact h.hp
theorem Dsk.setPend (h : Dsk w a N s) (l : List Bool) (hl : l.length = N) : Dsk (w.setRow a.p (bools l ++ a.tp).toArray) a N { s with pend := l } := by
  refine ⟨?_, ?_, ?_, ?_, h.hno, ⟨h.ok.now, h.ok.old, hl, h.ok.small, h.ok.left0, h.ok.left1⟩⟩
  · rw [setRow_other _ _ _ _ h.dp]; exact h.hd
  · rw [setRow_other _ _ _ _ h.np]; exact h.hn
  · rw [setRow_other _ _ _ _ h.op]; exact h.ho
  · exact setRow_heap _ _ _ _ _ _ h.hp
end
set_option maxHeartbeats 1000000 in
theorem settle_calls (a : DA) (N : Nat) (s : DS) (w : World) (h : Dsk w a N s) (hN : 0 < N) :
    Calls Try.prog 95 #[.pointer (some ⟨a.d, 0, none⟩)] w fun e w' => e = .returned (.tuple #[]) ∧ Dsk w' a N s.settled ∧ But a.has w w' := by
  have h0 := h.c0
  have h1 := h.c1
  have h2 := h.drew.setOld.c2
  have hl := flat_length h.ok.now
  have hlo := flat_length h.ok.old
  have hcp : ∀ ty, (Builtin.copy_ #[135, 135] ty #[.slice (some ⟨a.o, 0, none⟩) N a.co, .slice (some ⟨a.n, 0, none⟩) N a.cn]).run Try.prog w.drew = .ok (goInt ((Nat.min N N : Nat) : Int)) (w.drew.setRow a.o (nums .u8 s.now.flatten ++ a.t_o).toArray) := fun ty => by
    have := run_copy_sz (P := Try.prog) w.drew 135 135 ty 140 64 a.o 0 N a.co ⟨a.n, 0, none⟩ N a.cn _ _ (nums .u8 s.now.flatten) Try.underlying135 infoS h.drew.ho (by rw [nums_length, hl, show Nat.min N N = N from Nat.min_self N]) (fun j v hj => by
      have hjl := (List.getElem?_eq_some_iff.1 hj).1
      rw [add_plain, blk_cell h.drew.hn, List.getElem?_toArray]
      rw [List.getElem?_append_left hjl]
      exact hj) (by rw [List.size_toArray, List.length_append, nums_length, nums_length, hl, hlo]; omega) (nums_one _ _)
    rw [List.toList_toArray, List.take_zero, List.nil_append, Nat.zero_add, List.drop_append_of_le_length (by rw [nums_length, nums_length, hl, hlo]; omega), List.drop_eq_nil_of_le (by rw [nums_length, nums_length, hl, hlo]; omega), List.nil_append] at this
    exact this
  have hcl : ∀ ty, (Builtin.clear_ #[136] ty #[.slice (some ⟨a.p, 0, none⟩) N a.cp]).run Try.prog (w.drew.setRow a.o (nums .u8 s.now.flatten ++ a.t_o).toArray) = .ok (.tuple #[]) ((w.drew.setRow a.o (nums .u8 s.now.flatten ++ a.t_o).toArray).setRow a.p (bools (List.replicate N false) ++ a.tp).toArray) := fun ty => by
    have hz : (bools (List.replicate N false)).length = N := by simp [bools]
    have hbl : (bools s.pend).length = N := by rw [← h.ok.pend]; simp [bools]
    have := run_clear_row (P := Try.prog) (w.drew.setRow a.o (nums .u8 s.now.flatten ++ a.t_o).toArray) 136 ty 4 (.bool false) a.p N a.cp _ _ Try.underlying136 zeroB h.drew.setOld.hp (by rw [zero_bools, List.size_toArray, List.size_toArray, List.length_append, hz]; show _ ≤ (bools s.pend).length + _; omega) hN (by rw [zero_bools]; intro v hv; simp [bools] at hv; obtain ⟨_, rfl⟩ := hv; rfl)
    rw [zero_bools, List.toList_toArray, List.toList_toArray, List.size_toArray, List.drop_append_of_le_length (by rw [hz]; show _ ≤ (bools s.pend).length; omega), List.drop_eq_nil_of_le (by rw [hz]; show (bools s.pend).length ≤ _; omega), List.nil_append] at this
    exact this
  have HF := Aside0.mk (h.drew.setOld.setPend (List.replicate N false) (by simp))
  have hpl := h.ok.pend
  have HS := Aside0.mk (show s.settled = { s with old := s.now, pend := List.replicate N false } from by simp [DS.settled, hpl])
  clear h hl hlo hpl
  rw [HS.out]
  go_enter Try.func95, Try.ntmps95
  go_wp2
  refine start_ (n := 9) (S := fun w' => w'.cell? ⟨a.d, 0, none⟩ = some (.slice (some ⟨a.n, 0, none⟩) N a.cn) ∧ w'.cell? ⟨a.d, 1, none⟩ = some (.slice (some ⟨a.o, 0, none⟩) N a.co)) (ds := [8]) #[false, false, false, false, false, false, false, false, false] (by kernel_rfl) rfl rfl ⟨h0, h1⟩ (fun hHeld => ?_)
  refine pure_ (i := 0) (N := some 2) (v := ?_) (a' := ?_) #[true, false, false, false, false, false, false, false, false] rfl rfl (by kernel_rfl) (fun _ _ _ h => h) (Or.inl ⟨by rfl, ?_⟩) ?_ ?_
  rotate_left
  · intro w'
    go_simp
    with_reducible rfl
  rotate_left
  · simp only [Act.put, List.setIfInBounds_toArray, List.set_cons_zero, List.set_cons_succ, i64_w, i32_w]
    rfl
  refine pure_ (i := 1) (N := some 3) (v := ?_) (a' := ?_) #[true, true, false, false, false, false, false, false, false] rfl rfl (by kernel_rfl) (fun _ _ _ h => h) (Or.inl ⟨by rfl, ?_⟩) ?_ ?_
  rotate_left
  · intro w'
    go_simp
    with_reducible rfl
  rotate_left
  · simp only [Act.put, List.setIfInBounds_toArray, List.set_cons_zero, List.set_cons_succ, i64_w, i32_w]
    rfl
  refine pure_ (i := 2) (N := some 4) (v := ?_) (a' := ?_) #[true, true, true, false, false, false, false, false, false] rfl rfl (by kernel_rfl) (fun _ _ _ h => h) (Or.inl ⟨by rfl, ?_⟩) ?_ ?_
  rotate_left
  · intro w'
    go_simp
    with_reducible rfl
  rotate_left
  · simp only [Act.put, List.setIfInBounds_toArray, List.set_cons_zero, List.set_cons_succ, i64_w, i32_w]
    rfl
  refine pure_ (i := 4) (N := some 6) (v := ?_) (a' := ?_) #[true, true, true, false, true, false, false, false, false] rfl rfl (by kernel_rfl) (fun _ _ _ h => h) (Or.inl ⟨by rfl, ?_⟩) ?_ ?_
  rotate_left
  · intro w'
    go_simp
    with_reducible rfl
  rotate_left
  · simp only [Act.put, List.setIfInBounds_toArray, List.set_cons_zero, List.set_cons_succ, i64_w, i32_w]
    rfl
  refine pure_ (i := 5) (N := some 7) (v := ?_) (a' := ?_) #[true, true, true, false, true, true, false, false, false] rfl rfl (by kernel_rfl) (fun _ _ _ h => h) (Or.inl ⟨by rfl, ?_⟩) ?_ ?_
  rotate_left
  · intro w'
    go_simp
    with_reducible rfl
  rotate_left
  · simp only [Act.put, List.setIfInBounds_toArray, List.set_cons_zero, List.set_cons_succ, i64_w, i32_w]
    rfl
  refine pure_ (i := 6) (N := some 8) (v := ?_) (a' := ?_) #[true, true, true, false, true, true, true, false, false] rfl rfl (by kernel_rfl) (fun _ _ _ h => h) (Or.inl ⟨by rfl, ?_⟩) ?_ ?_
  rotate_left
  · intro w'
    go_simp
    with_reducible rfl
  rotate_left
  · simp only [Act.put, List.setIfInBounds_toArray, List.set_cons_zero, List.set_cons_succ, i64_w, i32_w]
    rfl
  refine take_ (i := 3) (N := some 5) (v := ?_) (a' := ?_) #[true, true, true, true, true, true, true, false, false] rfl rfl (by kernel_rfl) (fun _ _ _ h => h) (Or.inl ⟨by rfl, ?_⟩) hHeld ?_ ?_
  rotate_left
  · rintro w' ⟨s0, s1⟩
    go_simp
    with_reducible rfl
  rotate_left
  · simp only [Act.put, List.setIfInBounds_toArray, List.set_cons_zero, List.set_cons_succ, i64_w, i32_w]
    rfl
  refine take_ (i := 7) (N := some 9) (v := ?_) (a' := ?_) #[true, true, true, true, true, true, true, true, false] rfl rfl (by kernel_rfl) (fun _ _ _ h => h) (Or.inl ⟨by rfl, ?_⟩) hHeld ?_ ?_
  rotate_left
  · rintro w' ⟨s0, s1⟩
    go_simp
    with_reducible rfl
  rotate_left
  · simp only [Act.put, List.setIfInBounds_toArray, List.set_cons_zero, List.set_cons_succ, i64_w, i32_w]
    rfl
  refine last_ (i := 8) (N := some 10) #[true, true, true, true, true, true, true, true, true] rfl rfl (by kernel_rfl) (by decide) (fun K hK => ?_)
  refine value_ (w1 := ?_) (v := ?_) (by rfl) rfl ?_ ?_
  rotate_left 2
  · go_simp
    constructor
    · rfl
    · rfl
  refine hK.out _ _ ?_
  clear hK K
  refine norm_ (a' := ?_) ?_ ?_
  rotate_left
  · show Act.put _ (some 10) _ = _
    simp only [Act.put, List.setIfInBounds_toArray, List.set_cons_zero, List.set_cons_succ, i64_w, i32_w]
    rfl
  refine done_ (by kernel_rfl) ?_
  go_wp2
  go_end0
  exact ⟨rfl, HF.out, ((But.refl _ _).drew.setRow (.inr (.inr (.inl rfl))) _).setRow (.inr (.inr (.inr rfl))) _⟩
end Go.Proofs.Ytodhgohbcjnjfaa
