/- Disk's Pending, Rot and Crash. -/
import Derived.Test.YtodhgohbcjnjfaaDiskWrite
import Derived.Laws.BitsAllLaws
namespace Go.Proofs.Ytodhgohbcjnjfaa
open Go.RowKit Go.Proofs.YtodhgohbcjnjfaaW.PrintWords Go.Proofs.YtodhgohbcjnjfaaW.PrintLast Go.Proofs.YtodhgohbcjnjfaaW.PrintMore
set_option linter.unusedVariables false
set_option linter.unusedSimpArgs false
/-- The places of the true ones, from a number on. -/
def trues (n : Nat) : List Bool → List Int
  | [] => []
  | b :: l => if b = true then (n : Int) :: trues (n + 1) l else trues (n + 1) l
theorem trues_snoc (l : List Bool) (b : Bool) : ∀ n, trues n (l ++ [b]) = trues n l ++ (if b = true then [((n + l.length : Nat) : Int)] else []) := by
  induction l with
  | nil => intro n; simp [trues]
  | cons c l ih =>
    intro n
    simp only [List.cons_append, trues, ih, List.length_cons]
    rw [show n + 1 + l.length = n + (l.length + 1) from by omega]
    split <;> simp
theorem trues_len (l : List Bool) : ∀ n, (trues n l).length ≤ l.length := by
  induction l with
  | nil => intro n; simp [trues]
  | cons c l ih =>
    intro n
    have := ih (n + 1)
    simp only [trues]
    split <;> simp <;> omega
theorem trues_bd (l : List Bool) : ∀ n, ∀ x ∈ trues n l, (n : Int) ≤ x ∧ x < (n + l.length : Nat) := by
  induction l with
  | nil => intro n x hx; simp [trues] at hx
  | cons c l ih =>
    intro n x hx
    simp only [trues] at hx
    split at hx
    · rcases List.mem_cons.1 hx with rfl | hx
      · simp; omega
      · have := ih (n + 1) x hx
        simp at this ⊢
        omega
    · have := ih (n + 1) x hx
      simp at this ⊢
      omega
def DS.pending (s : DS) : List Int := trues 0 s.pend
theorem infoI : (Try.prog.info? 3).map (fun i => (i.zero, i.size, i.bytes)) = some (some (.int .i64 0), 1, 8) := by kernel_rfl
abbrev OI (w : World) (base : Nat) (v : Value) (l : List Int) : Prop := Kd.R (Kd.int .i64) 3 w base (fun _ => True) v l
theorem flat_setc {L : List (List Int)} {n : Nat} (h : Secs n L) (i : Nat) (hi : i < n) (j : Nat) (hj : j < 64) (z : Int) :
    L.flatten.set (i * 64 + j) z = (L.set i ((L.getD i []).set j z)).flatten := by
  obtain ⟨hl, hs⟩ := h
  subst hl
  induction L generalizing i with
  | nil => simp at hi
  | cons x L ih =>
    have hx : x.length = 64 := (hs x (by simp)).1
    cases i with
    | zero =>
      rw [List.flatten_cons, Nat.zero_mul, Nat.zero_add, List.set_append_left _ _ (by omega)]
      rfl
    | succ i =>
      rw [List.flatten_cons, List.set_append_right _ _ (by omega), show (i + 1) * 64 + j - x.length = i * 64 + j from by omega, ih i (fun y hy => hs y (by simp [hy])) (by simpa using hi)]
      rfl
theorem Secs.setc {L : List (List Int)} {n : Nat} (h : Secs n L) (i : Nat) (hi : i < n) (j : Nat) (z : Int) (hz : 0 ≤ z ∧ z < 256) : Secs n (L.set i ((L.getD i []).set j z)) := by
  have hs := h.at_ i hi
  refine h.set i _ (by rw [List.length_set]; exact hs.1) (fun y hy => ?_)
  rcases List.mem_or_eq_of_mem_set hy with hy | rfl
  · exact hs.2 y hy
  · exact hz
section
variable {w : World} {a : DA} {N : Nat} {s : DS}
theorem Dsk.setNowC (h : Dsk w a N s) (i : Nat) (hi : i < N) (j : Nat) (hj : j < 64) (z : Int) (hz : 0 ≤ z ∧ z < 256) : Dsk (w.setCell ⟨a.n, i * 64 + j, none⟩ (.int .u8 z)) a N { s with now := s.now.set i ((s.now.getD i []).set j z) } := by
  refine ⟨?_, ?_, ?_, ?_, h.hno, ⟨h.ok.now.setc i hi j z hz, h.ok.old, h.ok.pend, h.ok.small, h.ok.left0, h.ok.left1⟩⟩
  · exact blk_far h.hd (p := ⟨a.n, i * 64 + j, none⟩) h.dn _
  · have := blk_set h.hn (i * 64 + j) (.int .u8 z)
    have hfl := flat_length h.ok.now
    rw [this, ← flat_setc h.ok.now i hi j hj]
    congr 2
    rw [List.setIfInBounds_toArray, List.set_append_left _ _ (by rw [nums_length, hfl]; omega)]
    unfold nums
    rw [List.map_set]
  · exact blk_far h.ho (p := ⟨a.n, i * 64 + j, none⟩) h.hno.symm _
  · exact blk_far h.hp (p := ⟨a.n, i * 64 + j, none⟩) h.np.symm _
theorem Dsk.setOldC (h : Dsk w a N s) (i : Nat) (hi : i < N) (j : Nat) (hj : j < 64) (z : Int) (hz : 0 ≤ z ∧ z < 256) : Dsk (w.setCell ⟨a.o, i * 64 + j, none⟩ (.int .u8 z)) a N { s with old := s.old.set i ((s.old.getD i []).set j z) } := by
  refine ⟨?_, ?_, ?_, ?_, h.hno, ⟨h.ok.now, h.ok.old.setc i hi j z hz, h.ok.pend, h.ok.small, h.ok.left0, h.ok.left1⟩⟩
  · exact blk_far h.hd (p := ⟨a.o, i * 64 + j, none⟩) h.d_o _
  · exact blk_far h.hn (p := ⟨a.o, i * 64 + j, none⟩) h.hno _
  · have := blk_set h.ho (i * 64 + j) (.int .u8 z)
    have hfl := flat_length h.ok.old
    rw [this, ← flat_setc h.ok.old i hi j hj]
    congr 2
    rw [List.setIfInBounds_toArray, List.set_append_left _ _ (by rw [nums_length, hfl]; omega)]
    unfold nums
    rw [List.map_set]
  · exact blk_far h.hp (p := ⟨a.o, i * 64 + j, none⟩) h.op.symm _
theorem Dsk.cn (h : Dsk w a N s) (i : Nat) (hi : i < N) (j : Nat) (hj : j < 64) : w.cell? ⟨a.n, i * 64 + j, none⟩ = some (.int .u8 (rd (s.now.getD i []) j)) := by
  have hs := h.ok.now.at_ i hi
  have := flat_at h.ok.now i hi j hj
  have hfl := flat_length h.ok.now
  rw [blk_cell h.hn, List.getElem?_toArray, List.getElem?_append_left (by rw [nums_length, hfl]; omega)]
  unfold nums
  rw [List.getElem?_map, this]
  simp only [rd, List.getD, Int.toNat_natCast]
  rw [List.getElem?_eq_getElem (by have := hs.1; simp only [List.getD] at this; omega)]
  rfl
theorem Dsk.co (h : Dsk w a N s) (i : Nat) (hi : i < N) (j : Nat) (hj : j < 64) : w.cell? ⟨a.o, i * 64 + j, none⟩ = some (.int .u8 (rd (s.old.getD i []) j)) := by
  have hs := h.ok.old.at_ i hi
  have := flat_at h.ok.old i hi j hj
  have hfl := flat_length h.ok.old
  rw [blk_cell h.ho, List.getElem?_toArray, List.getElem?_append_left (by rw [nums_length, hfl]; omega)]
  unfold nums
  rw [List.getElem?_map, this]
  simp only [rd, List.getD, Int.toNat_natCast]
  rw [List.getElem?_eq_getElem (by have := hs.1; simp only [List.getD] at this; omega)]
  rfl
theorem Dsk.fn (h : Dsk w a N s) (i : Nat) : w.frozen? ⟨a.n, i, none⟩ = false := blk_frozen h.hn i
theorem Dsk.fo (h : Dsk w a N s) (i : Nat) : w.frozen? ⟨a.o, i, none⟩ = false := blk_frozen h.ho i
end
/-- A byte of a sector, with another one upon it. -/
def flipAt (L : List (List Int)) (i j : Nat) (x : Int) : List (List Int) := L.set i ((L.getD i []).set j (bits .xor .u8 (rd (L.getD i []) j) x))
def DS.rots (N : Nat) (i p x : Int) : Bool := isB i N && decide (0 ≤ p) && decide (p < 64) && (x != 0)
def DS.rot (s : DS) (N : Nat) (i p x : Int) : DS := if DS.rots N i p x = true then { s with now := flipAt s.now i.toNat p.toNat x, old := flipAt s.old i.toNat p.toNat x } else s
theorem xor8b (u x : Int) (hu : 0 ≤ u ∧ u < 256) (hx : 0 ≤ x ∧ x < 256) : 0 ≤ bits .xor .u8 u x ∧ bits .xor .u8 u x < 256 := by
  rw [u8_xor u x hu.1 hu.2 hx.1 hx.2]
  have h1 : u.toNat ^^^ x.toNat < 2 ^ 8 := Nat.xor_lt_two_pow (by omega) (by omega)
  omega
set_option maxRecDepth 100000
set_option maxHeartbeats 4000000 in
theorem rot_calls (a : DA) (N : Nat) (s : DS) (i p x : Int) (w : World) (h : Dsk w a N s) (hx : 0 ≤ x ∧ x < 256) :
    Calls Try.prog 37 #[.pointer (some ⟨a.d, 0, none⟩), .int .i64 i, .int .i64 p, .int .u8 x] w fun e w' => e = .returned (.bool (DS.rots N i p x)) ∧ Dsk w' a N (s.rot N i p x) ∧ But a.has w w' := by
  have H := Aside0.mk h
  by_cases hq : DS.rots N i p x = true
  · have e2 : s.rot N i p x = { s with now := flipAt s.now i.toNat p.toNat x, old := flipAt s.old i.toNat p.toNat x } := if_pos hq
    rw [hq, e2]
    simp only [DS.rots, Bool.and_eq_true, decide_eq_true_eq, bne_iff_ne, ne_eq] at hq
    obtain ⟨⟨⟨hi, hp0⟩, hp1⟩, hx0⟩ := hq
    have hr1 : 0 ≤ i ∧ i < (N : Int) := of_decide_eq_true hi
    obtain ⟨k, rfl⟩ := Int.eq_ofNat_of_zero_le hr1.1
    obtain ⟨j, rfl⟩ := Int.eq_ofNat_of_zero_le hp0
    have hk : k < N := by omega
    have hj : j < 64 := by omega
    have HI := Aside0.mk hi
    have t1 : (x == 0) = false := by simp [hx0]
    have t2 : decide ((j : Int) < 0) = false := by simp
    have t3 : decide (64 ≤ (j : Int)) = false := by simp; omega
    have j0 : (0 : Int) ≤ (k : Int) := by omega
    have j1 : (k : Int) < (N : Int) := by omega
    have j2 : (0 : Int) ≤ (j : Int) := by omega
    have j3 : (j : Int) < 64 := by omega
    have h0 := h.c0
    have hc := h.cn k hk j hj
    have hf := h.fn (k * 64 + j)
    have hu := (h.ok.now.at_ k hk).2.at_ j (by rw [(h.ok.now.at_ k hk).1]; exact hj)
    have hv := (h.ok.old.at_ k hk).2.at_ j (by rw [(h.ok.old.at_ k hk).1]; exact hj)
    have HN1 := Aside0.mk (h.setNowC k hk j hj _ (xor8b _ x hu hx))
    have h1' := HN1.out.drew
    have h1c := h1'.c1
    have hc2 := h1'.co k hk j hj
    have hf2 := h1'.fo (k * 64 + j)
    have HO1 := Aside0.mk (h1'.drew.setOldC k hk j hj _ (xor8b _ x hv hx))
    simp only [Int.toNat_natCast]
    clear hi hr1 e2 h h1' hp0 hp1 hx0
    unfold flipAt
    generalize hU : rd (s.now.getD k []) (j : Int) = u at *
    generalize hV : rd (s.old.getD k []) (j : Int) = v at *
    have HUU := Aside0.mk hU
    have HVV := Aside0.mk hV
    clear hU hV hu hv
    go_enter Try.func37, Try.ntmps37
    go_wp2_with fail
    refine (is_calls a N s k _ H.out).mono ?_
    rintro e w1 ⟨rfl, rfl⟩
    rw [HI.out]
    go_wp2
    refine start_ (n := 14) (S := fun w' => w'.cell? ⟨a.d, 0, none⟩ = some (.slice (some ⟨a.n, 0, none⟩) N a.cn) ∧ w'.cell? ⟨a.n, k * 64 + j, none⟩ = some (.int .u8 u)) (ds := [13]) #[false, false, false, false, false, false, false, false, false, false, false, false, false, false] (by kernel_rfl) rfl rfl ⟨h0, hc⟩ (fun hHeld => ?_)
    refine pure_ (i := 0) (N := some 25) (v := ?_) (a' := ?_) #[true, false, false, false, false, false, false, false, false, false, false, false, false, false] rfl rfl (by kernel_rfl) (fun _ _ _ h => h) (Or.inl ⟨by rfl, ?_⟩) ?_ ?_
    rotate_left
    · intro w'
      go_simp
      with_reducible rfl
    rotate_left
    · simp only [Act.put, List.setIfInBounds_toArray, List.set_cons_zero, List.set_cons_succ, i64_w, i32_w]
      rfl
    refine pure_ (i := 1) (N := some 26) (v := ?_) (a' := ?_) #[true, true, false, false, false, false, false, false, false, false, false, false, false, false] rfl rfl (by kernel_rfl) (fun _ _ _ h => h) (Or.inl ⟨by rfl, ?_⟩) ?_ ?_
    rotate_left
    · intro w'
      go_simp
      with_reducible rfl
    rotate_left
    · simp only [Act.put, List.setIfInBounds_toArray, List.set_cons_zero, List.set_cons_succ, i64_w, i32_w]
      rfl
    refine pure_ (i := 2) (N := some 27) (v := ?_) (a' := ?_) #[true, true, true, false, false, false, false, false, false, false, false, false, false, false] rfl rfl (by kernel_rfl) (fun _ _ _ h => h) (Or.inl ⟨by rfl, ?_⟩) ?_ ?_
    rotate_left
    · intro w'
      go_simp
      with_reducible rfl
    rotate_left
    · simp only [Act.put, List.setIfInBounds_toArray, List.set_cons_zero, List.set_cons_succ, i64_w, i32_w]
      rfl
    refine pure_ (i := 4) (N := some 29) (v := ?_) (a' := ?_) #[true, true, true, false, true, false, false, false, false, false, false, false, false, false] rfl rfl (by kernel_rfl) (fun _ _ _ h => h) (Or.inl ⟨by rfl, ?_⟩) ?_ ?_
    rotate_left
    · intro w'
      go_simp
      with_reducible rfl
    rotate_left
    · simp only [Act.put, List.setIfInBounds_toArray, List.set_cons_zero, List.set_cons_succ, i64_w, i32_w]
      rfl
    refine pure_ (i := 5) (N := some 30) (v := ?_) (a' := ?_) #[true, true, true, false, true, true, false, false, false, false, false, false, false, false] rfl rfl (by kernel_rfl) (fun _ _ _ h => h) (Or.inl ⟨by rfl, ?_⟩) ?_ ?_
    rotate_left
    · intro w'
      go_simp
      with_reducible rfl
    rotate_left
    · simp only [Act.put, List.setIfInBounds_toArray, List.set_cons_zero, List.set_cons_succ, i64_w, i32_w]
      rfl
    refine pure_ (i := 9) (N := some 34) (v := ?_) (a' := ?_) #[true, true, true, false, true, true, false, false, false, true, false, false, false, false] rfl rfl (by kernel_rfl) (fun _ _ _ h => h) (Or.inl ⟨by rfl, ?_⟩) ?_ ?_
    rotate_left
    · intro w'
      go_simp
      with_reducible rfl
    rotate_left
    · simp only [Act.put, List.setIfInBounds_toArray, List.set_cons_zero, List.set_cons_succ, i64_w, i32_w]
      rfl
    refine take_ (i := 3) (N := some 28) (v := ?_) (a' := ?_) #[true, true, true, true, true, true, false, false, false, true, false, false, false, false] rfl rfl (by kernel_rfl) (fun _ _ _ h => h) (Or.inl ⟨by rfl, ?_⟩) hHeld ?_ ?_
    rotate_left
    · rintro w' ⟨s0, s1⟩
      go_simp
      with_reducible rfl
    rotate_left
    · simp only [Act.put, List.setIfInBounds_toArray, List.set_cons_zero, List.set_cons_succ, i64_w, i32_w]
      rfl
    refine pure_ (i := 6) (N := some 31) (v := ?_) (a' := ?_) #[true, true, true, true, true, true, true, false, false, true, false, false, false, false] rfl rfl (by kernel_rfl) (fun _ _ _ h => h) (Or.inl ⟨by rfl, ?_⟩) ?_ ?_
    rotate_left
    · intro w'
      go_simp
      with_reducible rfl
    rotate_left
    · simp only [Act.put, List.setIfInBounds_toArray, List.set_cons_zero, List.set_cons_succ, i64_w, i32_w]
      rfl
    refine pure_ (i := 7) (N := some 32) (v := ?_) (a' := ?_) #[true, true, true, true, true, true, true, true, false, true, false, false, false, false] rfl rfl (by kernel_rfl) (fun _ _ _ h => h) (Or.inl ⟨by rfl, ?_⟩) ?_ ?_
    rotate_left
    · intro w'
      go_simp
      with_reducible rfl
    rotate_left
    · simp only [Act.put, List.setIfInBounds_toArray, List.set_cons_zero, List.set_cons_succ, i64_w, i32_w]
      rfl
    refine pure_ (i := 11) (N := some 36) (v := ?_) (a' := ?_) #[true, true, true, true, true, true, true, true, false, true, false, true, false, false] rfl rfl (by kernel_rfl) (fun _ _ _ h => h) (Or.inl ⟨by rfl, ?_⟩) ?_ ?_
    rotate_left
    · intro w'
      go_simp
      with_reducible rfl
    rotate_left
    · simp only [Act.put, List.setIfInBounds_toArray, List.set_cons_zero, List.set_cons_succ, i64_w, i32_w]
      rfl
    refine take_ (i := 8) (N := some 33) (v := ?_) (a' := ?_) #[true, true, true, true, true, true, true, true, true, true, false, true, false, false] rfl rfl (by kernel_rfl) (fun _ _ _ h => h) (Or.inl ⟨by rfl, ?_⟩) hHeld ?_ ?_
    rotate_left
    · rintro w' ⟨s0, s1⟩
      go_simp
      with_reducible rfl
    rotate_left
    · simp only [Act.put, List.setIfInBounds_toArray, List.set_cons_zero, List.set_cons_succ, i64_w, i32_w]
      rfl
    refine pure_ (i := 10) (N := some 35) (v := ?_) (a' := ?_) #[true, true, true, true, true, true, true, true, true, true, true, true, false, false] rfl rfl (by kernel_rfl) (fun _ _ _ h => h) (Or.inl ⟨by rfl, ?_⟩) ?_ ?_
    rotate_left
    · intro w'
      go_simp
      with_reducible rfl
    rotate_left
    · simp only [Act.put, List.setIfInBounds_toArray, List.set_cons_zero, List.set_cons_succ, i64_w, i32_w]
      rfl
    refine pure_ (i := 12) (N := some 37) (v := ?_) (a' := ?_) #[true, true, true, true, true, true, true, true, true, true, true, true, true, false] rfl rfl (by kernel_rfl) (fun _ _ _ h => h) (Or.inl ⟨by rfl, ?_⟩) ?_ ?_
    rotate_left
    · intro w'
      go_simp
      with_reducible rfl
    rotate_left
    · simp only [Act.put, List.setIfInBounds_toArray, List.set_cons_zero, List.set_cons_succ, i64_w, i32_w]
      rfl
    refine last_ (i := 13) (N := none) #[true, true, true, true, true, true, true, true, true, true, true, true, true, true] rfl rfl (by kernel_rfl) (by decide) (fun K hK => ?_)
    refine skip_ (w1 := ?_) (by rfl) rfl ?_ ?_
    rotate_left
    · go_simp
      rfl
    refine hK.out _ _ ?_
    clear hK K
    refine done_ (by kernel_rfl) ?_
    go_wp2
    refine start_ (n := 14) (S := fun w' => w'.cell? ⟨a.d, 1, none⟩ = some (.slice (some ⟨a.o, 0, none⟩) N a.co) ∧ w'.cell? ⟨a.o, k * 64 + j, none⟩ = some (.int .u8 v)) (ds := [13]) #[false, false, false, false, false, false, false, false, false, false, false, false, false, false] (by kernel_rfl) rfl rfl ⟨h1c, hc2⟩ (fun hHeld => ?_)
    refine pure_ (i := 0) (N := some 38) (v := ?_) (a' := ?_) #[true, false, false, false, false, false, false, false, false, false, false, false, false, false] rfl rfl (by kernel_rfl) (fun _ _ _ h => h) (Or.inl ⟨by rfl, ?_⟩) ?_ ?_
    rotate_left
    · intro w'
      go_simp
      with_reducible rfl
    rotate_left
    · simp only [Act.put, List.setIfInBounds_toArray, List.set_cons_zero, List.set_cons_succ, i64_w, i32_w]
      rfl
    refine pure_ (i := 1) (N := some 39) (v := ?_) (a' := ?_) #[true, true, false, false, false, false, false, false, false, false, false, false, false, false] rfl rfl (by kernel_rfl) (fun _ _ _ h => h) (Or.inl ⟨by rfl, ?_⟩) ?_ ?_
    rotate_left
    · intro w'
      go_simp
      with_reducible rfl
    rotate_left
    · simp only [Act.put, List.setIfInBounds_toArray, List.set_cons_zero, List.set_cons_succ, i64_w, i32_w]
      rfl
    refine pure_ (i := 2) (N := some 40) (v := ?_) (a' := ?_) #[true, true, true, false, false, false, false, false, false, false, false, false, false, false] rfl rfl (by kernel_rfl) (fun _ _ _ h => h) (Or.inl ⟨by rfl, ?_⟩) ?_ ?_
    rotate_left
    · intro w'
      go_simp
      with_reducible rfl
    rotate_left
    · simp only [Act.put, List.setIfInBounds_toArray, List.set_cons_zero, List.set_cons_succ, i64_w, i32_w]
      rfl
    refine pure_ (i := 4) (N := some 42) (v := ?_) (a' := ?_) #[true, true, true, false, true, false, false, false, false, false, false, false, false, false] rfl rfl (by kernel_rfl) (fun _ _ _ h => h) (Or.inl ⟨by rfl, ?_⟩) ?_ ?_
    rotate_left
    · intro w'
      go_simp
      with_reducible rfl
    rotate_left
    · simp only [Act.put, List.setIfInBounds_toArray, List.set_cons_zero, List.set_cons_succ, i64_w, i32_w]
      rfl
    refine pure_ (i := 5) (N := some 43) (v := ?_) (a' := ?_) #[true, true, true, false, true, true, false, false, false, false, false, false, false, false] rfl rfl (by kernel_rfl) (fun _ _ _ h => h) (Or.inl ⟨by rfl, ?_⟩) ?_ ?_
    rotate_left
    · intro w'
      go_simp
      with_reducible rfl
    rotate_left
    · simp only [Act.put, List.setIfInBounds_toArray, List.set_cons_zero, List.set_cons_succ, i64_w, i32_w]
      rfl
    refine pure_ (i := 9) (N := some 47) (v := ?_) (a' := ?_) #[true, true, true, false, true, true, false, false, false, true, false, false, false, false] rfl rfl (by kernel_rfl) (fun _ _ _ h => h) (Or.inl ⟨by rfl, ?_⟩) ?_ ?_
    rotate_left
    · intro w'
      go_simp
      with_reducible rfl
    rotate_left
    · simp only [Act.put, List.setIfInBounds_toArray, List.set_cons_zero, List.set_cons_succ, i64_w, i32_w]
      rfl
    refine take_ (i := 3) (N := some 41) (v := ?_) (a' := ?_) #[true, true, true, true, true, true, false, false, false, true, false, false, false, false] rfl rfl (by kernel_rfl) (fun _ _ _ h => h) (Or.inl ⟨by rfl, ?_⟩) hHeld ?_ ?_
    rotate_left
    · rintro w' ⟨s0, s1⟩
      go_simp
      with_reducible rfl
    rotate_left
    · simp only [Act.put, List.setIfInBounds_toArray, List.set_cons_zero, List.set_cons_succ, i64_w, i32_w]
      rfl
    refine pure_ (i := 6) (N := some 44) (v := ?_) (a' := ?_) #[true, true, true, true, true, true, true, false, false, true, false, false, false, false] rfl rfl (by kernel_rfl) (fun _ _ _ h => h) (Or.inl ⟨by rfl, ?_⟩) ?_ ?_
    rotate_left
    · intro w'
      go_simp
      with_reducible rfl
    rotate_left
    · simp only [Act.put, List.setIfInBounds_toArray, List.set_cons_zero, List.set_cons_succ, i64_w, i32_w]
      rfl
    refine pure_ (i := 7) (N := some 45) (v := ?_) (a' := ?_) #[true, true, true, true, true, true, true, true, false, true, false, false, false, false] rfl rfl (by kernel_rfl) (fun _ _ _ h => h) (Or.inl ⟨by rfl, ?_⟩) ?_ ?_
    rotate_left
    · intro w'
      go_simp
      with_reducible rfl
    rotate_left
    · simp only [Act.put, List.setIfInBounds_toArray, List.set_cons_zero, List.set_cons_succ, i64_w, i32_w]
      rfl
    refine pure_ (i := 11) (N := some 49) (v := ?_) (a' := ?_) #[true, true, true, true, true, true, true, true, false, true, false, true, false, false] rfl rfl (by kernel_rfl) (fun _ _ _ h => h) (Or.inl ⟨by rfl, ?_⟩) ?_ ?_
    rotate_left
    · intro w'
      go_simp
      with_reducible rfl
    rotate_left
    · simp only [Act.put, List.setIfInBounds_toArray, List.set_cons_zero, List.set_cons_succ, i64_w, i32_w]
      rfl
    refine take_ (i := 8) (N := some 46) (v := ?_) (a' := ?_) #[true, true, true, true, true, true, true, true, true, true, false, true, false, false] rfl rfl (by kernel_rfl) (fun _ _ _ h => h) (Or.inl ⟨by rfl, ?_⟩) hHeld ?_ ?_
    rotate_left
    · rintro w' ⟨s0, s1⟩
      go_simp
      with_reducible rfl
    rotate_left
    · simp only [Act.put, List.setIfInBounds_toArray, List.set_cons_zero, List.set_cons_succ, i64_w, i32_w]
      rfl
    refine pure_ (i := 10) (N := some 48) (v := ?_) (a' := ?_) #[true, true, true, true, true, true, true, true, true, true, true, true, false, false] rfl rfl (by kernel_rfl) (fun _ _ _ h => h) (Or.inl ⟨by rfl, ?_⟩) ?_ ?_
    rotate_left
    · intro w'
      go_simp
      with_reducible rfl
    rotate_left
    · simp only [Act.put, List.setIfInBounds_toArray, List.set_cons_zero, List.set_cons_succ, i64_w, i32_w]
      rfl
    refine pure_ (i := 12) (N := some 50) (v := ?_) (a' := ?_) #[true, true, true, true, true, true, true, true, true, true, true, true, true, false] rfl rfl (by kernel_rfl) (fun _ _ _ h => h) (Or.inl ⟨by rfl, ?_⟩) ?_ ?_
    rotate_left
    · intro w'
      go_simp
      with_reducible rfl
    rotate_left
    · simp only [Act.put, List.setIfInBounds_toArray, List.set_cons_zero, List.set_cons_succ, i64_w, i32_w]
      rfl
    refine last_ (i := 13) (N := none) #[true, true, true, true, true, true, true, true, true, true, true, true, true, true] rfl rfl (by kernel_rfl) (by decide) (fun K hK => ?_)
    refine skip_ (w1 := ?_) (by rfl) rfl ?_ ?_
    rotate_left
    · go_simp
      rfl
    refine hK.out _ _ ?_
    clear hK K
    refine done_ (by kernel_rfl) ?_
    go_wp2
    go_ret
    refine ⟨rfl, ?_, ?_⟩
    · exact HO1.out
    · exact ((((But.refl _ _).set (.inr (.inl rfl)) _).drew).set (.inr (.inr (.inl rfl))) _).drew
  · have hq' : DS.rots N i p x = false := by simpa using hq
    have e2 : s.rot N i p x = s := if_neg hq
    rw [hq', e2]
    clear e2 h hq
    have HQ := Aside0.mk hq'
    clear hq'
    cases hI : isB i N with
    | false =>
      have HI := Aside0.mk hI
      clear hI
      go_enter Try.func37, Try.ntmps37
      go_wp2_with fail
      refine (is_calls a N s i _ H.out).mono ?_
      rintro e w1 ⟨rfl, rfl⟩
      rw [HI.out]
      go_wp2
      go_ret
      exact ⟨rfl, H.out, But.refl _ _⟩
    | true =>
      have HI := Aside0.mk hI
      clear hI
      by_cases hp0 : p < 0
      · have t1 : decide (p < 0) = true := by simp [hp0]
        go_enter Try.func37, Try.ntmps37
        go_wp2_with fail
        refine (is_calls a N s i _ H.out).mono ?_
        rintro e w1 ⟨rfl, rfl⟩
        rw [HI.out]
        go_wp2
        go_ret
        exact ⟨rfl, H.out, But.refl _ _⟩
      · have t1 : decide (p < 0) = false := by simp; omega
        by_cases hp1 : 64 ≤ p
        · have t2 : decide (64 ≤ p) = true := by simp [hp1]
          go_enter Try.func37, Try.ntmps37
          go_wp2_with fail
          refine (is_calls a N s i _ H.out).mono ?_
          rintro e w1 ⟨rfl, rfl⟩
          rw [HI.out]
          go_wp2
          go_ret
          exact ⟨rfl, H.out, But.refl _ _⟩
        · have t2 : decide (64 ≤ p) = false := by simp; omega
          have hx0 : x = 0 := by
            by_cases hx0 : x = 0
            · exact hx0
            · exfalso
              have := HQ.out
              unfold DS.rots at this
              rw [HI.out, decide_eq_true (show 0 ≤ p by omega), decide_eq_true (show p < 64 by omega)] at this
              simp [hx0] at this
          subst hx0
          go_enter Try.func37, Try.ntmps37
          go_wp2_with fail
          refine (is_calls a N s i _ H.out).mono ?_
          rintro e w1 ⟨rfl, rfl⟩
          rw [HI.out]
          go_wp2
          go_ret
          exact ⟨rfl, H.out, But.refl _ _⟩
end Go.Proofs.Ytodhgohbcjnjfaa
