/- A packed Super with one byte changed is none (no program). -/
import Derived.Test.YtodhgohbcjnjfaaSuperPure
namespace Go.Proofs.Ytodhgohbcjnjfaa
open Go.RowKit Go.Proofs.YtodhgohbcjnjfaaW.PrintWords Go.Proofs.YtodhgohbcjnjfaaW.PrintLast Go.Proofs.YtodhgohbcjnjfaaW.PrintMore
set_option linter.unusedVariables false
set_option linter.unusedSimpArgs false
theorem packed_drop4 (s : Sup) : s.packed.drop 4 = bodyOf s.ns ++ List.replicate 32 0 := by
  unfold Sup.packed sealed
  rw [List.append_assoc]
  rfl
theorem packed_take4 (s : Sup) : s.packed.take 4 = be4 (adler (bodyOf s.ns)) := by
  unfold Sup.packed sealed
  rw [List.append_assoc]
  rfl
theorem ns_length (s : Sup) : s.ns.length = 6 := rfl
theorem body_length (s : Sup) : (bodyOf s.ns).length = 28 := by rw [bodyOf_length, ns_length]
theorem packed_of_body {s t : Sup} (h : bodyOf t.ns = bodyOf s.ns) : t.packed = s.packed := by
  unfold Sup.packed
  rw [h]
theorem rd_drop (l : List Int) (m k : Nat) : rd (l.drop m) k = rd l ((m + k : Nat) : Int) := by
  simp only [rd, Int.toNat_natCast, List.getD, List.getElem?_drop]
theorem rd_packed_tail (s : Sup) (k : Nat) (h0 : 32 ≤ k) (h1 : k < 64) : rd s.packed k = 0 := by
  have h := rd_drop s.packed 4 (k - 4)
  rw [packed_drop4, rd_append_right (k - 4) (by rw [body_length]; omega), show 4 + (k - 4) = k from by omega] at h
  rw [← h, body_length]
  simp only [rd, Int.toNat_natCast, List.getD]
  rw [List.getElem?_replicate]
  split <;> rfl
theorem isSup_set (s : Sup) (j : Nat) (hj : j < 64) (z : Int) (hz : 0 ≤ z ∧ z < 256) (hne : z ≠ rd s.packed j) : isSup (s.packed.set j z) = false := by
  rw [Bool.eq_false_iff]
  intro hc
  unfold isSup at hc
  simp only [Bool.and_eq_true, decide_eq_true_eq] at hc
  obtain ⟨⟨_, _⟩, he⟩ := hc
  generalize supOf (s.packed.set j z) = t at he
  have hl : s.packed.length = 64 := packed_length s
  have h4 := congrArg (List.take 4) he
  have hd := congrArg (List.drop 4) he
  rw [packed_take4, List.take_set, packed_take4] at h4
  rw [packed_drop4, List.drop_set, packed_drop4] at hd
  by_cases j4 : j < 4
  · rw [if_pos j4] at hd
    have := List.append_cancel_right hd
    rw [packed_of_body this] at he
    exact set_ne_self j (by omega) z hne he.symm
  · rw [if_neg j4] at hd
    by_cases j32 : j < 32
    · rw [List.set_append_left _ _ (by rw [body_length]; omega)] at hd
      have hb := List.append_cancel_right hd
      rw [List.set_eq_of_length_le (by rw [be4_length]; omega)] at h4
      have ha := be4_inj (adler_bd _) (adler_bd _) h4
      rw [hb] at ha
      refine adler_set_ne (bodyOf s.ns) (bodyOf_byt _) (j - 4) (by rw [body_length]; omega) z hz ?_ ha
      intro e
      apply hne
      have hr := rd_drop s.packed 4 (j - 4)
      rw [packed_drop4, rd_append_left (j - 4) (by rw [body_length]; omega), show 4 + (j - 4) = j from by omega] at hr
      rw [e, hr]
    · have h1 := rd_packed_tail t j (by omega) hj
      have h2 := rd_packed_tail s j (by omega) hj
      rw [he] at h1
      have h3 : rd (s.packed.set j z) j = z := by
        simp [rd, List.getD, List.getElem?_set_self (show j < s.packed.length by omega)]
      rw [h3] at h1
      rw [h2, h1] at hne
      exact hne rfl
theorem isSup_set' (s : Sup) (h : s.may = true) (j : Nat) (hj : j < 64) (z : Int) (hz : 0 ≤ z ∧ z < 256) : isSup (s.packed.set j z) = decide (z = rd s.packed j) := by
  by_cases e : z = rd s.packed j
  · rw [e, set_self j (by rw [packed_length]; exact hj), isSup_packed s h]
    simp
  · rw [isSup_set s j hj z hz e]
    simp [e]
theorem isSup_len (l : List Int) (h : l.length ≠ 64) : isSup l = false := by simp [isSup, h]
theorem may_bad (s : Sup) (k : Nat) (hk : k < 6) (h : b31 (rd s.ns k) = false) : s.may = false := by
  have hm : rd s.ns k ∈ s.ns := rd_mem s.ns k hk
  rw [Bool.eq_false_iff]
  intro hc
  simp only [Sup.may, Bool.and_eq_true] at hc
  rw [List.all_eq_true.1 hc.1 _ hm] at h
  cases h
theorem pack_bad {s : Sup} (h : s.may = false) : s.pack = [] := by simp [Sup.pack, h]
theorem pack_ok {s : Sup} (h : s.may = true) : s.pack = s.packed := by simp [Sup.pack, h]
end Go.Proofs.Ytodhgohbcjnjfaa
