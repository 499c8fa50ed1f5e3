/- Disk's Write, Barrier and Read. -/
import Derived.Test.YtodhgohbcjnjfaaDiskRun
import Derived.Test.YtodhgohbcjnjfaaBytesB
namespace Go.Proofs.Ytodhgohbcjnjfaa
open Go.RowKit Go.Proofs.YtodhgohbcjnjfaaW.PrintWords Go.Proofs.YtodhgohbcjnjfaaW.PrintLast Go.Proofs.YtodhgohbcjnjfaaW.PrintMore
set_option linter.unusedVariables false
set_option linter.unusedSimpArgs false
set_option maxRecDepth 100000
theorem flat_set {L : List (List Int)} {n : Nat} (h : Secs n L) (i : Nat) (hi : i < n) (b : List Int) (hb : b.length = 64) :
    L.flatten.take (i * 64) ++ b ++ L.flatten.drop (i * 64 + 64) = (L.set i b).flatten := by
  obtain ⟨hl, hs⟩ := h
  subst hl
  induction L generalizing i with
  | nil => simp at hi
  | cons x L ih =>
    have hx : x.length = 64 := (hs x (by simp)).1
    cases i with
    | zero =>
      simp only [Nat.zero_mul, List.take_zero, List.nil_append, Nat.zero_add, List.set_cons_zero, List.flatten_cons]
      rw [← hx, List.drop_left]
    | succ i =>
      have e1 : (i + 1) * 64 = x.length + i * 64 := by omega
      have e2 : (i + 1) * 64 + 64 = x.length + (i * 64 + 64) := by omega
      rw [List.set_cons_succ, List.flatten_cons, List.flatten_cons, e2, e1, List.take_length_add_append, List.drop_length_add_append, List.append_assoc, List.append_assoc, ← List.append_assoc (L.flatten.take (i * 64)), ih i (fun y hy => hs y (by simp [hy])) (by simpa using hi)]
theorem Secs.set {L : List (List Int)} {n : Nat} (h : Secs n L) (i : Nat) (b : List Int) (hb : b.length = 64) (hy : Byt b) : Secs n (L.set i b) :=
  ⟨by rw [List.length_set]; exact h.1, fun x hx => by
    rcases List.mem_or_eq_of_mem_set hx with hx | rfl
    · exact h.2 x hx
    · exact ⟨hb, hy⟩⟩
theorem Secs.at_ {L : List (List Int)} {n : Nat} (h : Secs n L) (i : Nat) (hi : i < n) : (L.getD i []).length = 64 ∧ Byt (L.getD i []) := by
  have hl : i < L.length := by rw [h.1]; exact hi
  have : L.getD i [] = L[i] := by simp [List.getD, hl]
  rw [this]
  exact h.2 _ (List.getElem_mem _)
theorem flat_at {L : List (List Int)} {n : Nat} (h : Secs n L) (i : Nat) (hi : i < n) (j : Nat) (hj : j < 64) : L.flatten[i * 64 + j]? = (L.getD i [])[j]? := by
  obtain ⟨hl, hs⟩ := h
  subst hl
  induction L generalizing i with
  | nil => simp at hi
  | cons x L ih =>
    have hx : x.length = 64 := (hs x (by simp)).1
    cases i with
    | zero =>
      rw [List.flatten_cons, Nat.zero_mul, Nat.zero_add, List.getElem?_append_left (by omega)]
      rfl
    | succ i =>
      rw [List.flatten_cons, List.getElem?_append_right (by omega), show (i + 1) * 64 + j - x.length = i * 64 + j from by omega, ih i (fun y hy => hs y (by simp [hy])) (by simpa using hi)]
      rfl
/-- A sector is written. -/
def DS.put (s : DS) (i : Nat) (b : List Int) : DS := { s with now := s.now.set i b, pend := s.pend.set i true }
def DS.write (s : DS) (N : Nat) (i : Int) (b : List Int) : Int × DS :=
  if s.dead = true then (10, s) else if isB i N = false ∨ b.length ≠ 64 then (1, s) else if s.act = false then (10, s.acted) else (0, s.acted.put i.toNat b)
section
variable {w : World} {a : DA} {N : Nat} {s : DS}
theorem Dsk.setNow (h : Dsk w a N s) (i : Nat) (hi : i < N) (b : List Int) (hb : b.length = 64) (hy : Byt b) : Dsk (w.setRow a.n (nums .u8 (s.now.set i b).flatten ++ a.tn).toArray) a N { s with now := s.now.set i b } := by
  refine ⟨?_, ?_, ?_, ?_, h.hno, ⟨h.ok.now.set i b hb hy, h.ok.old, h.ok.pend, h.ok.small, h.ok.left0, h.ok.left1⟩⟩
  · rw [setRow_other _ _ _ _ h.dn]; exact h.hd
  · exact setRow_heap _ _ _ _ _ _ h.hn
  · rw [setRow_other _ _ _ _ h.hno.symm]; exact h.ho
  · rw [setRow_other _ _ _ _ h.np.symm]; exact h.hp
theorem Dsk.setP (h : Dsk w a N s) (i : Nat) (hi : i < N) (b : Bool) : Dsk (w.setCell ⟨a.p, i, none⟩ (.bool b)) a N { s with pend := s.pend.set i b } := by
  refine ⟨?_, ?_, ?_, ?_, h.hno, ⟨h.ok.now, h.ok.old, by rw [List.length_set]; exact h.ok.pend, h.ok.small, h.ok.left0, h.ok.left1⟩⟩
  · exact blk_far h.hd (p := ⟨a.p, i, none⟩) h.dp _
  · exact blk_far h.hn (p := ⟨a.p, i, none⟩) h.np _
  · exact blk_far h.ho (p := ⟨a.p, i, none⟩) h.op _
  · have := blk_set h.hp i (.bool b)
    have hl : i < (bools s.pend).length := by rw [show (bools s.pend).length = s.pend.length from by simp [bools], h.ok.pend]; exact hi
    rw [this]
    simp only [List.setIfInBounds_toArray, List.set_append_left _ _ hl]
    simp [bools, List.map_set]
theorem Dsk.cp (h : Dsk w a N s) (i : Nat) (hi : i < N) : w.cell? ⟨a.p, i, none⟩ = some (.bool (s.pend.getD i false)) := by
  have hl : i < s.pend.length := by rw [h.ok.pend]; exact hi
  rw [blk_cell h.hp, List.getElem?_toArray, List.getElem?_append_left (by simp [bools]; omega)]
  simp [bools, List.getD, hl]
theorem Dsk.fp (h : Dsk w a N s) (i : Nat) : w.frozen? ⟨a.p, i, none⟩ = false := blk_frozen h.hp i
/-- copy(d.now[i][k:], b), b as long as what is left -/
theorem Dsk.copyNow (h : Dsk w a N s) (i : Nat) (hi : i < N) (k : Nat) (hk : k ≤ 64) (A : Option Addr) (n c dc : Nat) (b : List Int) (hn : n = 64 - k) (hr : RB w A n b) (T1 : TypeId) (ty : TypeId) :
    (Builtin.copy_ #[24, T1] ty #[.slice (some ⟨a.n, i * 64 + k, none⟩) (64 - k) dc, .slice A n c]).run Try.prog w = .ok (goInt ((64 - k : Nat) : Int)) (w.setRow a.n (nums .u8 (s.now.set i ((s.now.getD i []).take k ++ b)).flatten ++ a.tn).toArray) ∨ k = 64 := by
  by_cases h64 : k = 64
  · exact .inr h64
  · left
    have hbl : b.length = n := Kd.C_len hr
    obtain ⟨ad, rfl, _⟩ := hr.2.2 (by omega)
    have hs := h.ok.now.at_ i hi
    have hfl := flat_length h.ok.now
    have := run_copy_sz (P := Try.prog) w 24 T1 ty 5 1 a.n (i * 64 + k) (64 - k) dc ad n c _ _ (nums .u8 b) Try.underlying24 cellsT_b h.hn (by rw [nums_length, hbl, hn, show Nat.min (64 - k) (64 - k) = 64 - k from Nat.min_self _]; omega) (fun j v hj => by
      have hjl : j < b.length := by
        have := (List.getElem?_eq_some_iff.1 hj).1
        simpa [nums] using this
      obtain ⟨ad', e, hc⟩ := Kd.at_int hr (j : Int) (by omega) (by omega)
      cases e
      rw [Int.toNat_natCast] at hc
      rw [hc]
      simp [nums, rd, List.getD, hjl] at hj ⊢
      exact hj) (by rw [List.size_toArray, List.length_append, nums_length, nums_length, hfl, hbl]; omega) (nums_one _ _)
    rw [this, hn, show Nat.min (64 - k) (64 - k) = 64 - k from Nat.min_self _]
    congr 3
    rw [List.toList_toArray, List.take_append_of_le_length (by rw [nums_length, hfl]; omega), List.drop_append_of_le_length (by rw [nums_length, nums_length, hfl, hbl]; omega), ← List.append_assoc]
    congr 1
    rw [← flat_set h.ok.now i hi _ (by rw [List.length_append, List.length_take, hs.1, hbl]; omega), nums_length, hbl]
    simp only [nums, ← List.map_take, ← List.map_drop, ← List.map_append]
    congr 2
    · rw [List.take_add, ← List.append_assoc]
      congr 2
      apply List.ext_getElem?
      intro j
      by_cases hj : j < k
      · rw [List.getElem?_take_of_lt hj, List.getElem?_take_of_lt hj, List.getElem?_drop, flat_at h.ok.now i hi j (by omega)]
      · rw [List.getElem?_eq_none (by rw [List.length_take]; omega), List.getElem?_eq_none (by rw [List.length_take]; omega)]
    · congr 1
      omega
end
theorem DS.acted_ok {s : DS} {N : Nat} (h : s.ok N) : s.acted.ok N := by
  unfold DS.acted
  split
  · exact ⟨h.now, h.old, h.pend, h.small, h.left0, h.left1⟩
  · exact ⟨h.now, h.old, h.pend, h.small, by simp; omega, by have := h.left1; simp; omega⟩
theorem acted_now (s : DS) : s.acted.now = s.now := by unfold DS.acted; split <;> rfl
theorem acted_old (s : DS) : s.acted.old = s.old := by unfold DS.acted; split <;> rfl
theorem acted_pend (s : DS) : s.acted.pend = s.pend := by unfold DS.acted; split <;> rfl
set_option maxRecDepth 100000
set_option maxHeartbeats 4000000 in
theorem write_calls (a : DA) (N : Nat) (s : DS) (i : Int) (A : Option Addr) (nl c : Nat) (b : List Int) (w : World) (h : Dsk w a N s) (hr : RB w A nl b) (hb : Byt b) (hA : ∀ ad, A = some ad → ¬ a.has ad.block) :
    Calls Try.prog 35 #[.pointer (some ⟨a.d, 0, none⟩), .int .i64 i, .slice A nl c] w fun e w' => e = .returned (.int .i64 (s.write N i b).1) ∧ Dsk w' a N (s.write N i b).2 ∧ But a.has w w' := by
  obtain rfl : b.length = nl := Kd.C_len hr
  have H := Aside0.mk h
  have HR := Aside0.mk hr
  have h3 := h.c3
  clear h hr
  by_cases hd : s.dead = true
  · have e1 : s.write N i b = (10, s) := by simp [DS.write, hd]
    rw [e1]
    rw [hd] at h3
    clear hd e1
    go_enter Try.func35, Try.ntmps35
    go_wp2
    go_ret
    exact ⟨rfl, H.out, But.refl _ _⟩
  · have hd' : s.dead = false := by simpa using hd
    rw [hd'] at h3
    by_cases hi : isB i N = false ∨ b.length ≠ 64
    · have e1 : s.write N i b = (1, s) := by simp only [DS.write, hd', Bool.false_eq_true, if_false, if_pos hi]
      rw [e1]
      have hq : ((b.length : Int) == 64) = decide (b.length = 64) := by rw [Bool.eq_iff_iff]; simp; omega
      have hq' : ((b.length : Int) != 64) = !decide (b.length = 64) := by rw [bne, hq]
      clear hd hd' e1
      rcases hi with hi | hi
      · go_enter Try.func35, Try.ntmps35
        go_wp2_with fail
        refine (is_calls a N s i _ H.out).mono ?_
        rintro e w1 ⟨rfl, rfl⟩
        rw [hi]
        go_wp2
        go_ret
        exact ⟨rfl, H.out, But.refl _ _⟩
      · rw [decide_eq_false hi] at hq hq'
        generalize hI : isB i N = q at *
        have HI := Aside0.mk hI
        clear hI hi
        go_enter Try.func35, Try.ntmps35
        go_wp2_with fail
        refine (is_calls a N s i _ H.out).mono ?_
        rintro e w1 ⟨rfl, rfl⟩
        rw [HI.out]
        cases q
        · go_wp2
          go_ret
          exact ⟨rfl, H.out, But.refl _ _⟩
        · go_wp2
          go_ret
          exact ⟨rfl, H.out, But.refl _ _⟩
    · have hi1 : isB i N = true := by
        cases h : isB i N
        · exact absurd (.inl h) hi
        · rfl
      have hi2 : b.length = 64 := by
        by_cases h : b.length = 64
        · exact h
        · exact absurd (.inr h) hi
      have hq : ((b.length : Int) == 64) = true := by simp; omega
      have hq' : ((b.length : Int) != 64) = false := by simp; omega
      have hr1 : 0 ≤ i ∧ i < (N : Int) := of_decide_eq_true hi1
      have HI1 := Aside0.mk hi1
      obtain ⟨k, rfl⟩ := Int.eq_ofNat_of_zero_le hr1.1
      have hk : k < N := by omega
      have HI2 := Aside0.mk hi2
      by_cases ha : s.act = false
      · have e1 : s.write N k b = (10, s.acted) := by simp only [DS.write, hd', Bool.false_eq_true, if_false, if_neg hi, if_pos ha]
        rw [e1]
        clear hd hd' hi hi1 hi2 e1
        go_enter Try.func35, Try.ntmps35
        go_wp2_with fail
        refine (is_calls a N s k _ H.out).mono ?_
        rintro e w1 ⟨rfl, rfl⟩
        rw [HI1.out]
        go_wp2_with fail
        refine (act_calls a N s _ H.out).mono ?_
        rintro e w1 ⟨rfl, h1, hb1⟩
        rw [ha]
        have H1 := Aside0.mk h1
        have HB1 := Aside0.mk hb1
        clear h1 hb1
        go_wp2
        go_ret
        exact ⟨rfl, H1.out, HB1.out⟩
      · have ha' : s.act = true := by simpa using ha
        have e1 : s.write N k b = (0, s.acted.put k b) := by simp only [DS.write, hd', Bool.false_eq_true, if_false, if_neg hi, if_neg ha, Int.toNat_natCast]
        rw [e1]
        clear hd hd' hi hi1 hi2 e1
        go_enter Try.func35, Try.ntmps35
        go_wp2_with fail
        refine (is_calls a N s k _ H.out).mono ?_
        rintro e w1 ⟨rfl, rfl⟩
        rw [HI1.out]
        go_wp2_with fail
        refine (act_calls a N s _ H.out).mono ?_
        rintro e w1 ⟨rfl, h1, hb1⟩
        rw [ha']
        have hr2 : RB w1 A b.length b := RB_but HR.out hb1 hA
        have h0 := h1.c0
        have hcp := fun ty => (h1.copyNow k hk 0 (by omega) A b.length c 64 b (by rw [HI2.out]) hr2 24 ty).resolve_right (by omega)
        have hs1 := h1.ok.now.at_ k hk
        simp only [List.take_zero, List.nil_append, Nat.add_zero, Nat.sub_zero] at hcp
        have h5 := h1.setNow k hk b HI2.out hb
        have c2' := h5.c2
        have cp' := h5.cp k hk
        have fp' := h5.fp k
        have H5 := Aside0.mk h5
        have HB1 := Aside0.mk hb1
        have j0 : (0 : Int) ≤ (k : Int) := by omega
        have j1 : (k : Int) < (N : Int) := by omega
        have HX := Aside0.mk hs1
        clear hs1 h1 h5 hb1 hr2 hr1
        go_wp2
        go_ret
        exact ⟨rfl, H5.out.setP k (by omega) true, ((HB1.out).setRow (.inr (.inl rfl)) _).set (.inr (.inr (.inr rfl))) _⟩
/-- All that was written stays. -/
def DS.barrier (s : DS) : Int × DS := if s.dead = true then (10, s) else if s.act = false then (10, s.acted) else (0, s.acted.settled)
set_option maxHeartbeats 4000000 in
theorem barrier_calls (a : DA) (N : Nat) (s : DS) (w : World) (h : Dsk w a N s) (hN : 0 < N) :
    Calls Try.prog 42 #[.pointer (some ⟨a.d, 0, none⟩)] w fun e w' => e = .returned (.int .i64 s.barrier.1) ∧ Dsk w' a N s.barrier.2 ∧ But a.has w w' := by
  have H := Aside0.mk h
  have h3 := h.c3
  clear h
  by_cases hd : s.dead = true
  · have e1 : s.barrier = (10, s) := by simp [DS.barrier, hd]
    rw [e1]
    rw [hd] at h3
    clear hd e1
    go_enter Try.func42, Try.ntmps42
    go_wp2
    go_ret
    exact ⟨rfl, H.out, But.refl _ _⟩
  · have hd' : s.dead = false := by simpa using hd
    rw [hd'] at h3
    by_cases ha : s.act = false
    · have e1 : s.barrier = (10, s.acted) := by simp only [DS.barrier, hd', Bool.false_eq_true, if_false, if_pos ha]
      rw [e1]
      clear hd hd' e1
      go_enter Try.func42, Try.ntmps42
      go_wp2_with fail
      refine (act_calls a N s _ H.out).mono ?_
      rintro e w1 ⟨rfl, h1, hb1⟩
      rw [ha]
      have H1 := Aside0.mk h1
      have HB1 := Aside0.mk hb1
      clear h1 hb1
      go_wp2
      go_ret
      exact ⟨rfl, H1.out, HB1.out⟩
    · have ha' : s.act = true := by simpa using ha
      have e1 : s.barrier = (0, s.acted.settled) := by simp only [DS.barrier, hd', Bool.false_eq_true, if_false, if_neg ha]
      rw [e1]
      clear hd hd' e1
      go_enter Try.func42, Try.ntmps42
      go_wp2_with fail
      refine (act_calls a N s _ H.out).mono ?_
      rintro e w1 ⟨rfl, h1, hb1⟩
      rw [ha']
      have H1 := Aside0.mk h1
      have HB1 := Aside0.mk hb1
      clear h1 hb1
      go_wp2_with fail
      refine (settle_calls a N s.acted _ H1.out hN).mono ?_
      rintro e w2 ⟨rfl, h2, hb2⟩
      have H2 := Aside0.mk h2
      have HB2 := Aside0.mk hb2
      clear h2 hb2
      go_wp2
      go_ret
      exact ⟨rfl, H2.out, HB1.out.trans HB2.out⟩
/-- A sector's bytes, or none. -/
def DS.read (s : DS) (N : Nat) (i : Int) : List Int := if isB i N = true then s.now.getD i.toNat [] else []
set_option maxHeartbeats 4000000 in
theorem read_calls (a : DA) (N : Nat) (s : DS) (i : Int) (w : World) (h : Dsk w a N s) :
    Calls Try.prog 39 #[.pointer (some ⟨a.d, 0, none⟩), .int .i64 i] w fun e w' => ∃ v, e = .returned v ∧ OB w' w.heap.size v (s.read N i) ∧ Below w.heap.size w w' := by
  have H := Aside0.mk h
  have h0 := h.c0
  by_cases hi : isB i N = true
  · have e1 : s.read N i = s.now.getD i.toNat [] := if_pos hi
    have hr1 : 0 ≤ i ∧ i < (N : Int) := of_decide_eq_true hi
    obtain ⟨k, rfl⟩ := Int.eq_ofNat_of_zero_le hr1.1
    have hk : k < N := by omega
    have j0 : (0 : Int) ≤ (k : Int) := by omega
    have j1 : (k : Int) < (N : Int) := by omega
    rw [Int.toNat_natCast] at e1
    have hs := h.ok.now.at_ k hk
    have hrb : RB w (some ⟨a.n, k * 64, none⟩) 64 (s.now.getD k []) := by
      refine ⟨hs.1, by omega, fun _ => ⟨_, rfl, fun j p hj => ⟨[.int .u8 p], rfl, rfl, fun q u hu => ?_⟩⟩⟩
      cases q with
      | succ q => simp at hu
      | zero =>
        simp at hu
        subst hu
        have hj64 : j < 64 := by
          have := (List.getElem?_eq_some_iff.1 hj).1
          omega
        have := flat_at h.ok.now k hk j hj64
        rw [hj] at this
        have e : (⟨a.n, k * 64, none⟩ : Addr).add (j * (Kd.int .u8).sz + 0) = ⟨a.n, k * 64 + j, none⟩ := by
          rw [show j * (Kd.int .u8).sz + 0 = j from Nat.mul_one j, ← add_plain a.n (k * 64), add_add, add_plain]
        have hfl := flat_length h.ok.now
        rw [e, blk_cell h.hn, List.getElem?_toArray, List.getElem?_append_left (by rw [nums_length, hfl]; omega)]
        unfold nums
        rw [List.getElem?_map, this]
        rfl
    have HRB := Aside0.mk hrb
    have HI := Aside0.mk hi
    rw [e1]
    clear hr1 hi e1 hs hrb h
    go_enter Try.func39, Try.ntmps39
    go_wp2_with fail
    refine (is_calls a N s k _ H.out).mono ?_
    rintro e w1 ⟨rfl, rfl⟩
    rw [HI.out]
    go_wp2_with fail
    refine (clone_calls _ _ _ _ _ HRB.out (by omega)).mono ?_
    rintro e w1 ⟨v1, rfl, ho1, hb1⟩
    go_wp2
    go_ret
    exact ⟨_, rfl, ho1, hb1⟩
  · have e1 : s.read N i = [] := if_neg hi
    have hi' : isB i N = false := by simpa using hi
    have HI := Aside0.mk hi'
    rw [e1]
    clear hi hi' e1 h
    go_enter Try.func39, Try.ntmps39
    go_wp2_with fail
    refine (is_calls a N s i _ H.out).mono ?_
    rintro e w1 ⟨rfl, rfl⟩
    rw [HI.out]
    go_wp2
    go_ret
    exact ⟨_, rfl, Kd.R_nil _ _ _ _ _, Below.refl _ _⟩
end Go.Proofs.Ytodhgohbcjnjfaa
