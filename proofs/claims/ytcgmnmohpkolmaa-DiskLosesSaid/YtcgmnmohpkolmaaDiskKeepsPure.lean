/- Plain facts for DiskKeeps: which sectors stay. -/
import Derived.Test.YtcgmnmohpkolmaaDiskRots
namespace Go.Proofs.Ytcgmnmohpkolmaa
open Go.RowKit Go.Proofs.YtcgmnmohpkolmaaW.PrintWords Go.Proofs.YtcgmnmohpkolmaaW.PrintLast Go.Proofs.YtcgmnmohpkolmaaW.PrintMore
set_option linter.unusedVariables false
set_option linter.unusedSimpArgs false
set_option maxRecDepth 100000
def kpIn : List Int := [6, 1, 3, 7, 2]
def kpOut : List Int := [1, 2, 3, 6, 7]
/-- The disk of the statement behind so many writes. -/
def kst : Nat → DS
  | 0 => newDS 8
  | k + 1 => ((kst k).write 8 (rd kpIn k) (List.replicate 64 (50 + rd kpIn k))).2
theorem kst_write (k : Nat) (hk : k < 5) : (kst k).write 8 (rd kpIn k) (List.replicate 64 (50 + rd kpIn k)) = (0, kst (k + 1)) := by
  refine Prod.ext ?_ rfl
  match k, hk with
  | 0, _ => decide +kernel
  | 1, _ => decide +kernel
  | 2, _ => decide +kernel
  | 3, _ => decide +kernel
  | 4, _ => decide +kernel
theorem kst_pending : (kst 5).pending = kpOut := by decide +kernel
theorem kst_old : (kst 5).old = List.replicate 8 (List.replicate 64 0) := by decide +kernel
theorem kst_now (k : Nat) (hk : k < 5) : (kst 5).now.getD (rd kpOut k).toNat [] = List.replicate 64 (50 + rd kpOut k) := by
  match k, hk with
  | 0, _ => decide +kernel
  | 1, _ => decide +kernel
  | 2, _ => decide +kernel
  | 3, _ => decide +kernel
  | 4, _ => decide +kernel
theorem kst_now0 : (kst 5).now.getD 0 [] = List.replicate 64 0 := by decide +kernel
theorem kst_len : (kst 5).now.length = 8 := by decide +kernel
theorem kpOut_bd (k : Nat) (hk : k < 5) : 1 ≤ rd kpOut k ∧ rd kpOut k ≤ 7 := by
  match k, hk with
  | 0, _ => decide
  | 1, _ => decide
  | 2, _ => decide
  | 3, _ => decide
  | 4, _ => decide
theorem kpIn_bd (k : Nat) (hk : k < 5) : 1 ≤ rd kpIn k ∧ rd kpIn k ≤ 7 := by
  match k, hk with
  | 0, _ => decide
  | 1, _ => decide
  | 2, _ => decide
  | 3, _ => decide
  | 4, _ => decide
theorem kpOut_inj (k j : Nat) (hk : k < 5) (hj : j < 5) (h : k ≠ j) : (rd kpOut k).toNat ≠ (rd kpOut j).toNat := by
  have : ∀ k j : Fin 5, k ≠ j → (rd kpOut (k : Nat)).toNat ≠ (rd kpOut (j : Nat)).toNat := by decide
  exact this ⟨k, hk⟩ ⟨j, hj⟩ (fun e => h (by simpa using congrArg Fin.val e))
theorem getD_rep {α : Type} (n i : Nat) (x d : α) (h : i < n) : (List.replicate n x).getD i d = x := by simp [List.getD, h]
theorem lost_length (old now : List (List Int)) (i t : Nat) : (lost old now i t).length = now.length := by simp [lost]
theorem lost_other (old now : List (List Int)) (i t j : Nat) (h : i ≠ j) : (lost old now i t).getD j [] = now.getD j [] := by
  simp [lost, List.getD, List.getElem?_set_ne h]
theorem lost_same (old now : List (List Int)) (i t : Nat) (h : i < now.length) : (lost old now i t).getD i [] = (now.getD i []).take t ++ (old.getD i []).drop t := by
  unfold lost
  rw [List.getD, List.getElem?_set_self h]
  rfl
theorem lose_length (old : List (List Int)) (keep : Int) : ∀ (P : List Int) (k t : Nat) (now : List (List Int)), (lose old keep k t P now).length = now.length := by
  intro P
  induction P with
  | nil => intro k t now; rfl
  | cons i P ih =>
    intro k t now
    unfold lose
    split
    · exact ih _ _ _
    · rw [ih, lost_length]
theorem lose_other (old : List (List Int)) (keep : Int) (j : Nat) : ∀ (P : List Int) (k t : Nat) (now : List (List Int)), (∀ i ∈ P, i.toNat ≠ j) → (lose old keep k t P now).getD j [] = now.getD j [] := by
  intro P
  induction P with
  | nil => intro k t now _; rfl
  | cons i P ih =>
    intro k t now h
    unfold lose
    split
    · exact ih _ _ _ (fun x hx => h x (by simp [hx]))
    · rw [ih _ _ _ (fun x hx => h x (by simp [hx])), lost_other _ _ _ _ _ (h i (by simp))]
theorem mem_drop_rd {P : List Int} {k : Nat} {x : Int} (h : x ∈ P.drop k) : ∃ j : Nat, k ≤ j ∧ j < P.length ∧ x = rd P j := by
  obtain ⟨i, hi, rfl⟩ := List.mem_iff_getElem.1 h
  rw [List.length_drop] at hi
  refine ⟨k + i, by omega, by omega, ?_⟩
  unfold rd
  rw [Int.toNat_natCast, List.getD_eq_getElem?_getD, List.getElem?_eq_getElem (by omega)]
  simp
/-- What sector k of those that were written is to be. -/
def wantK (keep : Int) (t : Nat) (f : Bool) (k : Nat) : List Int :=
  if keptAt keep k = true then List.replicate 64 (50 + rd kpOut k) else List.replicate (if f = true then t else 0) (50 + rd kpOut k) ++ List.replicate (64 - (if f = true then t else 0)) 0
/-- One sector on: what it is in the end, and what is still to come. -/
theorem keep_step (keep : Int) (t : Nat) (ht : t ≤ 64) (f : Bool) (k : Nat) (hk : k < 5) (now F : List (List Int)) (hl : now.length = 8) (hF : lose (kst 5).old keep k (if f = true then t else 0) (kpOut.drop k) now = F)
    (hn : ∀ j, k ≤ j → j < 5 → now.getD (rd kpOut j).toNat [] = List.replicate 64 (50 + rd kpOut j)) :
    ∃ now', F.getD (rd kpOut k).toNat [] = wantK keep t f k ∧ now'.length = 8 ∧ lose (kst 5).old keep (k + 1) (if (f && keptAt keep k) = true then t else 0) (kpOut.drop (k + 1)) now' = F ∧
      (∀ j, k + 1 ≤ j → j < 5 → now'.getD (rd kpOut j).toNat [] = List.replicate 64 (50 + rd kpOut j)) := by
  have hi := kpOut_bd k hk
  have hno : ∀ x ∈ kpOut.drop (k + 1), x.toNat ≠ (rd kpOut k).toNat := fun x hx => by
    obtain ⟨j, h1, h2, rfl⟩ := mem_drop_rd hx
    exact kpOut_inj j k h2 hk (by omega)
  rw [lose_step _ _ _ _ _ _ (show k < kpOut.length from hk)] at hF
  cases hkp : keptAt keep k
  · rw [hkp] at hF
    simp only [Bool.false_eq_true, if_false] at hF
    refine ⟨_, ?_, ?_, by rw [Bool.and_false]; simpa using hF, fun j h1 h2 => ?_⟩
    · rw [← hF, lose_other _ _ _ _ _ _ _ hno, lost_same _ _ _ _ (by rw [hl]; omega), hn k (Nat.le_refl _) hk]
      unfold wantK
      rw [hkp, kst_old]
      simp only [Bool.false_eq_true, if_false]
      have e : (List.replicate 8 (List.replicate 64 (0 : Int))).getD (rd kpOut k).toNat [] = List.replicate 64 0 := getD_rep 8 _ _ _ (by omega)
      rw [e, List.take_replicate, List.drop_replicate]
      congr 1
      cases f <;> simp
      omega
    · rw [lost_length, hl]
    · rw [lost_other _ _ _ _ _ (kpOut_inj k j hk h2 (by omega))]
      exact hn j (by omega) h2
  · rw [hkp] at hF
    simp only [if_true] at hF
    refine ⟨now, ?_, hl, by rw [Bool.and_true]; exact hF, fun j h1 h2 => hn j (by omega) h2⟩
    rw [← hF, lose_other _ _ _ _ _ _ _ hno, hn k (Nat.le_refl _) hk]
    unfold wantK
    rw [if_pos hkp]
theorem wraps_i64' (n : Int) (h0 : 0 ≤ n) (h1 : n < 2 ^ 40) : IntKind.i64.wrap n = n := by
  rw [IntKind.wrap_i64]
  omega
theorem and_one (n : Int) (h0 : 0 ≤ n) (h1 : n < 2 ^ 40) : bits .and .i64 n 1 = n % 2 := bits_mask .i64 40 (by decide) wraps_i64' 1 (by decide) n h0 h1
theorem kept_test (q k : Nat) (hq : q < 32) (hk : k < 5) : (bits .and .i64 ((q : Int) / 2 ^ k) 1 == 0) = !keptAt q k := by
  unfold keptAt
  have e1 : k % 62 = k := Nat.mod_eq_of_lt (by omega)
  rw [e1]
  have h1 : (0 : Int) ≤ (q : Int) / 2 ^ k := Int.ediv_nonneg (by omega) (Int.pow_nonneg (by omega))
  have h2 : (q : Int) / 2 ^ k < 2 ^ 40 := by
    have : (q : Int) / 2 ^ k ≤ q := Int.ediv_le_self _ (by omega)
    omega
  rw [and_one _ h1 h2]
  generalize (q : Int) / 2 ^ k = y at *
  rcases Int.emod_two_eq y with h | h <;> rw [h] <;> rfl
/-- The loop's row: so far the byte, then noughts, then the byte still. -/
def midK (n m : Nat) (x : Int) : List Int := List.replicate n x ++ (List.replicate (m - n) 0 ++ List.replicate (64 - m) x)
theorem midK_length (n m : Nat) (x : Int) (h1 : n ≤ m) (h2 : m ≤ 64) : (midK n m x).length = 64 := by
  simp [midK]
  omega
theorem midK_start (n : Nat) (x : Int) (h : n ≤ 64) : midK n n x = List.replicate 64 x := by
  unfold midK
  rw [Nat.sub_self, List.replicate_zero, List.nil_append, List.replicate_append_replicate]
  congr 1
  omega
theorem midK_set (n m : Nat) (x : Int) (h1 : n ≤ m) (h2 : m < 64) : (midK n m x).set m 0 = midK n (m + 1) x := by
  unfold midK
  rw [List.set_append_right _ _ (by simp; omega), List.length_replicate, List.set_append_right _ _ (by simp), List.length_replicate, Nat.sub_self, show 64 - m = (64 - (m + 1)) + 1 from by omega, List.replicate_succ, List.set_cons_zero, show m + 1 - n = (m - n) + 1 from by omega, List.replicate_succ', List.append_assoc]
  rfl
theorem midK_end (n : Nat) (x : Int) (h : n ≤ 64) : midK n 64 x = List.replicate n x ++ List.replicate (64 - n) 0 := by simp [midK]
end Go.Proofs.Ytcgmnmohpkolmaa
