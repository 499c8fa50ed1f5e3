/- Plain laws of the sum: one byte changed changes it. -/
import Derived.Test.YtodhgohbcjnjfaaAdlerPure
namespace Go.Proofs.Ytodhgohbcjnjfaa
open Go.RowKit Go.Proofs.YtodhgohbcjnjfaaW.PrintWords Go.Proofs.YtodhgohbcjnjfaaW.PrintLast Go.Proofs.YtodhgohbcjnjfaaW.PrintMore
set_option linter.unusedVariables false
set_option linter.unusedSimpArgs false
theorem sealed_length (l : List Int) : (sealed l).length = l.length + 4 := by simp [sealed, be4]
theorem sealed_byt {l : List Int} (h : Byt l) : Byt (sealed l) := (be4_byt _).append h
theorem be4_length (n : Int) : (be4 n).length = 4 := rfl
theorem sealed_take (l : List Int) : (sealed l).take 4 = be4 (adler l) := by
  rw [sealed, ← be4_length (adler l), List.take_left]
theorem sealed_drop (l : List Int) : (sealed l).drop 4 = l := by
  rw [sealed, ← be4_length (adler l), List.drop_left]
theorem be4_inj {a b : Int} (ha : 0 ≤ a ∧ a < 4294967296) (hb : 0 ≤ b ∧ b < 4294967296) (h : be4 a = be4 b) : a = b := by
  unfold be4 at h
  simp only [List.cons.injEq, and_true] at h
  omega
theorem ad_fst (l : List Int) : ∀ p : Int × Int, (l.foldl (fun p c => ((p.1 + c) % 65521, (p.2 + (p.1 + c) % 65521) % 65521)) p).1 % 65521 = (p.1 + l.sum) % 65521 := by
  induction l with
  | nil => intro p; simp
  | cons c l ih =>
    intro p
    rw [List.foldl_cons, ih, List.sum_cons]
    simp only
    omega
theorem ad_sum (l : List Int) : (ad l).1 % 65521 = (1 + l.sum) % 65521 := ad_fst l (1, 0)
theorem sum_set (l : List Int) (k : Nat) (hk : k < l.length) (z : Int) : (l.set k z).sum = l.sum - rd l k + z := by
  induction l generalizing k with
  | nil => simp at hk
  | cons c l ih =>
    cases k with
    | zero => simp [rd]; omega
    | succ k =>
      have := ih k (by simpa using hk)
      simp only [List.set_cons_succ, List.sum_cons, this, rd, Int.toNat_natCast, List.getD_cons_succ] at *
      omega
theorem adler_set_ne (l : List Int) (hb : Byt l) (k : Nat) (hk : k < l.length) (z : Int) (hz : 0 ≤ z ∧ z < 256) (h : z ≠ rd l k) : adler (l.set k z) ≠ adler l := by
  intro e
  have h1 := ad_bd l
  have h2 := ad_bd (l.set k z)
  have e1 : (ad (l.set k z)).1 = (ad l).1 := by unfold adler at e; omega
  have s1 := ad_sum l
  have s2 := ad_sum (l.set k z)
  rw [e1, s1, sum_set l k hk z] at s2
  have hr := hb.at_ k hk
  omega
theorem rd_append_left {l m : List Int} (k : Nat) (h : k < l.length) : rd (l ++ m) k = rd l k := by
  simp [rd, List.getD, List.getElem?_append_left h]
theorem rd_append_right {l m : List Int} (k : Nat) (h : l.length ≤ k) : rd (l ++ m) k = rd m ((k - l.length : Nat) : Int) := by
  simp [rd, List.getD, List.getElem?_append_right h]
theorem set_ne_self {l : List Int} (k : Nat) (hk : k < l.length) (z : Int) (h : z ≠ rd l k) : l.set k z ≠ l := by
  intro e
  have : (l.set k z)[k]? = l[k]? := by rw [e]
  rw [List.getElem?_set_self hk] at this
  apply h
  simp [rd, List.getD, ← this]
theorem set_self {l : List Int} (k : Nat) (hk : k < l.length) : l.set k (rd l k) = l := by
  apply List.ext_getElem?
  intro i
  by_cases h : i = k
  · subst h
    rw [List.getElem?_set_self hk]
    simp [rd, List.getD, hk]
  · rw [List.getElem?_set_ne (by omega)]
end Go.Proofs.Ytodhgohbcjnjfaa
