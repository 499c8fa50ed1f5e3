/- The edges, one behind the other. -/
import Derived.Test.YtolecdgpfflijaaDoorGaugeBest
import Derived.Test.YtolecdgpfflijaaDoorGaugeWakes
namespace Go.Proofs.YtolecdgpfflijaaDoor
open Go.RowKit Go.Proofs.YtolecdgpfflijaaDoorW.PrintWords Go.Proofs.YtolecdgpfflijaaDoorW.PrintLast Go.Proofs.YtolecdgpfflijaaDoorW.PrintMore
set_option linter.unusedVariables false
set_option linter.unusedSimpArgs false
def edgeChk (k : Nat) : Bool :=
  let n : Int := (k : Int) + 1
  shareO n 0 == some 9218868437227405312 && shareO (-n) 0 == some 18442240474082181120 && shareO 0 n == some 0 && shareO 0 (-n) == some 9223372036854775808 &&
  match shareO (-n) 1, shareO n 1 with
  | some a, some b => decide (a < 18446744073709551616) && decide (b < 18446744073709551616) && !nanB a && !nanB b && decide (key 18442240474082181120 < key a) && decide (key a < key 9223372036854775808) && decide (key 0 < key b) && decide (key b < key 9218868437227405312)
  | _, _ => false
theorem edge_all : ((List.range 1000).all edgeChk) = true := by decide +kernel
structure Edge (n : Int) (a b : Nat) : Prop where
  up : shareO n 0 = some 9218868437227405312
  down : shareO (-n) 0 = some 18442240474082181120
  zero : shareO 0 n = some 0
  minus : shareO 0 (-n) = some 9223372036854775808
  lo : shareO (-n) 1 = some a
  hi : shareO n 1 = some b
  la : a < 18446744073709551616
  lb : b < 18446744073709551616
  na : nanB a = false
  nb : nanB b = false
  k0 : key 18442240474082181120 < key a
  k1 : key a < key 9223372036854775808
  k2 : key 0 < key b
  k3 : key b < key 9218868437227405312
theorem edge_of (n : Int) (h1 : 1 ≤ n) (h2 : n ≤ 1000) : ∃ a b, Edge n a b := by
  have h := List.all_eq_true.1 edge_all (n - 1).toNat (List.mem_range.2 (by omega))
  unfold edgeChk at h
  simp only [show (((n - 1).toNat : Nat) : Int) + 1 = n from by omega, Bool.and_eq_true, beq_iff_eq] at h
  obtain ⟨⟨⟨⟨h3, h4⟩, h5⟩, h6⟩, h7⟩ := h
  split at h7
  · rename_i a b ha hb
    simp only [Bool.and_eq_true, decide_eq_true_eq, Bool.not_eq_true'] at h7
    obtain ⟨⟨⟨⟨⟨⟨⟨q1, q2⟩, q3⟩, q4⟩, q5⟩, q6⟩, q7⟩, q8⟩ := h7
    exact ⟨a, b, ⟨h3, h4, h5, h6, ha, hb, q1, q2, q3, q4, q5, q6, q7, q8⟩⟩
  · cases h7
/-- The row of the edges. -/
def edges (a b r : Nat) : List Nat := [18442240474082181120, a, 9223372036854775808, 0, b, 9218868437227405312, r]
theorem up_all (f : Nat → Int) (m : Nat) (h : ∀ i, i < m → f i < f (i + 1)) : ∀ j i, i < j → j ≤ m → f i < f j := by
  intro j
  induction j with
  | zero => intro i hi; omega
  | succ j ih =>
    intro i hi hj
    rcases Nat.lt_or_ge i j with h1 | h1
    · have := ih i h1 (by omega)
      have := h j (by omega)
      omega
    · obtain rfl : i = j := by omega
      exact h _ (by omega)
theorem edges_up {n : Int} {a b r : Nat} (h : Edge n a b) (hr : nanB r = true) (i : Nat) (hi : i < 6) : key ((edges a b r).getD i 0) < key ((edges a b r).getD (i + 1) 0) := by
  rcases (by omega : i = 0 ∨ i = 1 ∨ i = 2 ∨ i = 3 ∨ i = 4 ∨ i = 5) with rfl | rfl | rfl | rfl | rfl | rfl
  · exact h.k0
  · exact h.k1
  · exact (by decide : key 9223372036854775808 < key 0)
  · exact h.k2
  · exact h.k3
  · show key 9218868437227405312 < key r
    rw [key_nan hr]
    decide
theorem edges_key {n : Int} {a b r : Nat} (h : Edge n a b) (hr : nanB r = true) (i j : Nat) (hi : i < 7) (hj : j < 7) :
    decide (key (rdOf 0 (edges a b r) i) < key (rdOf 0 (edges a b r) j)) = decide ((i : Int) < j) ∧ decide (key (rdOf 0 (edges a b r) i) = key (rdOf 0 (edges a b r) j)) = decide ((i : Int) = j) := by
  have hu := up_all (fun i => key ((edges a b r).getD i 0)) 6 (fun i hi => edges_up h hr i hi)
  have e : ∀ k : Nat, rdOf 0 (edges a b r) (k : Int) = (edges a b r).getD k 0 := fun k => by unfold rdOf; rw [Int.toNat_natCast]
  rw [e, e]
  rcases Nat.lt_trichotomy i j with q | q | q
  · have := hu j i q (by omega)
    exact ⟨by rw [decide_eq_true this, decide_eq_true (by omega)], by rw [decide_eq_false (by omega), decide_eq_false (by omega)]⟩
  · subst q
    exact ⟨by rw [decide_eq_false (by omega), decide_eq_false (by omega)], by rw [decide_eq_true rfl, decide_eq_true rfl]⟩
  · have := hu i j q (by omega)
    exact ⟨by rw [decide_eq_false (by omega), decide_eq_false (by omega)], by rw [decide_eq_false (by omega), decide_eq_false (by omega)]⟩
theorem edges_nan {n : Int} {a b r : Nat} (h : Edge n a b) (i : Nat) (hi : i < 6) : nanB (rdOf 0 (edges a b r) i) = false := by
  rcases (by omega : i = 0 ∨ i = 1 ∨ i = 2 ∨ i = 3 ∨ i = 4 ∨ i = 5) with rfl | rfl | rfl | rfl | rfl | rfl
  · exact (by decide : nanB 18442240474082181120 = false)
  · exact h.na
  · exact (by decide : nanB 9223372036854775808 = false)
  · exact (by decide : nanB 0 = false)
  · exact h.nb
  · exact (by decide : nanB 9218868437227405312 = false)
theorem edges_best {n : Int} {a b r : Nat} (h : Edge n a b) (hr : nanB r = true) : bestAt (edges a b r) 7 = 5 := by
  have hall : ∀ k : Nat, k < 6 → bestAt (edges a b r) (k + 1) = k := by
    intro k
    induction k with
    | zero =>
      intro _
      rw [bestAt]
      refine if_pos ?_
      unfold bestT
      rw [edges_nan h 0 (by omega)]
      rfl
    | succ k ih =>
      intro hk
      rw [bestAt, ih (by omega)]
      refine if_pos ?_
      unfold bestT
      rw [edges_nan h (k + 1) hk, (edges_key h hr k (k + 1) (by omega) (by omega)).1]
      simp
      omega
  rw [bestAt, hall 5 (by omega)]
  refine if_neg ?_
  unfold bestT
  rw [show nanB (rdOf 0 (edges a b r) ((6 : Nat) : Int)) = true from hr]
  simp
theorem best_four {r : Nat} (hr : nanB r = true) : bestAt [r, 9223372036854775808, 0, 9223372036854775808] 4 = 2 := by
  have h1 : bestAt [r, 9223372036854775808, 0, 9223372036854775808] 1 = -1 := by
    rw [bestAt]
    refine if_neg ?_
    unfold bestT
    rw [show nanB (rdOf 0 [r, 9223372036854775808, 0, 9223372036854775808] ((0 : Nat) : Int)) = true from hr]
    simp
  have h2 : bestAt [r, 9223372036854775808, 0, 9223372036854775808] 2 = 1 := by
    rw [bestAt, h1]
    exact if_pos (by show bestT [0, 9223372036854775808, 0, 9223372036854775808] (-1) 1 = true; decide)
  have h3 : bestAt [r, 9223372036854775808, 0, 9223372036854775808] 3 = 2 := by
    rw [bestAt, h2]
    exact if_pos (by show bestT [0, 9223372036854775808, 0, 9223372036854775808] 1 2 = true; decide)
  rw [bestAt, h3]
  exact if_neg (by show ¬ bestT [0, 9223372036854775808, 0, 9223372036854775808] 2 3 = true; decide)
theorem best_two {r : Nat} (hr : nanB r = true) : bestAt [18442240474082181120, r] 2 = 0 := by
  have h1 : bestAt [18442240474082181120, r] 1 = 0 := by
    rw [bestAt]
    exact if_pos (by show bestT [18442240474082181120, 0] (-1) 0 = true; decide)
  rw [bestAt, h1]
  refine if_neg ?_
  unfold bestT
  rw [show nanB (rdOf 0 [18442240474082181120, r] ((1 : Nat) : Int)) = true from hr]
  simp
end Go.Proofs.YtolecdgpfflijaaDoor
