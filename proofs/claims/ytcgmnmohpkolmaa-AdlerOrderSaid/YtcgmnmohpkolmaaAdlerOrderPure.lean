/- Plain law of the sum: two bytes side by side, changed for each other. -/
import Derived.Test.YtcgmnmohpkolmaaAdlerFindsPure
namespace Go.Proofs.Ytcgmnmohpkolmaa
open Go.RowKit Go.Proofs.YtcgmnmohpkolmaaW.PrintWords Go.Proofs.YtcgmnmohpkolmaaW.PrintLast Go.Proofs.YtcgmnmohpkolmaaW.PrintMore
set_option linter.unusedVariables false
set_option linter.unusedSimpArgs false
/-- The sum goes on from a state. -/
def adf (p : Int × Int) (l : List Int) : Int × Int := l.foldl (fun p c => ((p.1 + c) % 65521, (p.2 + (p.1 + c) % 65521) % 65521)) p
theorem adf_cons (p : Int × Int) (c : Int) (l : List Int) : adf p (c :: l) = adf ((p.1 + c) % 65521, (p.2 + (p.1 + c) % 65521) % 65521) l := rfl
theorem adf_append (p : Int × Int) (l m : List Int) : adf p (l ++ m) = adf (adf p l) m := by simp [adf, List.foldl_append]
theorem adf_diff (q : List Int) : ∀ x y y' : Int, (adf (x, y) q).1 = (adf (x, y') q).1 ∧ ((adf (x, y) q).2 - (adf (x, y') q).2) % 65521 = (y - y') % 65521 := by
  induction q with
  | nil => intro x y y'; exact ⟨rfl, rfl⟩
  | cons c q ih =>
    intro x y y'
    rw [adf_cons, adf_cons]
    obtain ⟨h1, h2⟩ := ih ((x + c) % 65521) ((y + (x + c) % 65521) % 65521) ((y' + (x + c) % 65521) % 65521)
    refine ⟨h1, ?_⟩
    rw [h2]
    omega
theorem swap_sum (p q : List Int) (u v : Int) (hu : 0 ≤ u ∧ u < 256) (hv : 0 ≤ v ∧ v < 256) :
    adler (p ++ u :: v :: q) % 65536 = adler (p ++ v :: u :: q) % 65536 ∧ (adler (p ++ u :: v :: q) = adler (p ++ v :: u :: q) ↔ u = v) := by
  have b1 := ad_bd (p ++ u :: v :: q)
  have b2 := ad_bd (p ++ v :: u :: q)
  have e1 : ad (p ++ u :: v :: q) = adf (((adf (1, 0) p).1 + u + v) % 65521, ((adf (1, 0) p).2 + 2 * (adf (1, 0) p).1 + 2 * u + v) % 65521) q := by
    show adf (1, 0) _ = _
    rw [adf_append, adf_cons, adf_cons]
    congr 2 <;> simp only <;> omega
  have e2 : ad (p ++ v :: u :: q) = adf (((adf (1, 0) p).1 + u + v) % 65521, ((adf (1, 0) p).2 + 2 * (adf (1, 0) p).1 + 2 * v + u) % 65521) q := by
    show adf (1, 0) _ = _
    rw [adf_append, adf_cons, adf_cons]
    congr 2 <;> simp only <;> omega
  obtain ⟨d1, d2⟩ := adf_diff q (((adf (1, 0) p).1 + u + v) % 65521) (((adf (1, 0) p).2 + 2 * (adf (1, 0) p).1 + 2 * u + v) % 65521) (((adf (1, 0) p).2 + 2 * (adf (1, 0) p).1 + 2 * v + u) % 65521)
  rw [← e1, ← e2] at d1 d2
  unfold adler
  refine ⟨by omega, fun h => ?_, fun h => by rw [h]⟩
  have h2 : (ad (p ++ u :: v :: q)).2 = (ad (p ++ v :: u :: q)).2 := by omega
  rw [h2] at d2
  omega
theorem split2 (l : List Int) (k : Nat) (h : k + 1 < l.length) : l = l.take k ++ rd l k :: rd l ((k + 1 : Nat) : Int) :: l.drop (k + 2) := by
  have e1 : l.drop k = rd l k :: l.drop (k + 1) := by
    rw [List.drop_eq_getElem_cons (by omega)]
    simp [rd, List.getD, show k < l.length by omega]
  have e2 : l.drop (k + 1) = rd l ((k + 1 : Nat) : Int) :: l.drop (k + 2) := by
    rw [List.drop_eq_getElem_cons (by omega)]
    simp [rd, List.getD, h]
  rw [← e2, ← e1, List.take_append_drop]
theorem set2 (p q : List Int) (u v a b : Int) : ((p ++ u :: v :: q).set p.length a).set (p.length + 1) b = p ++ a :: b :: q := by
  rw [List.set_append_right _ _ (Nat.le_refl _), Nat.sub_self, List.set_cons_zero, List.set_append_right _ _ (by omega)]
  simp
/-- Swapped. -/
def swapped (l : List Int) (k : Nat) : List Int := (l.set k (rd l ((k + 1 : Nat) : Int))).set (k + 1) (rd l k)
theorem swapped_sum (l : List Int) (hb : Byt l) (k : Nat) (h : k + 1 < l.length) :
    adler l % 65536 = adler (swapped l k) % 65536 ∧ (adler l = adler (swapped l k) ↔ rd l k = rd l ((k + 1 : Nat) : Int)) := by
  have e1 := split2 l k h
  have hl : (l.take k).length = k := by rw [List.length_take]; omega
  have e2 : swapped l k = l.take k ++ rd l ((k + 1 : Nat) : Int) :: rd l k :: l.drop (k + 2) := by
    unfold swapped
    conv => lhs; rw [e1]
    have := set2 (l.take k) (l.drop (k + 2)) (rd l k) (rd l ((k + 1 : Nat) : Int)) (rd l ((k + 1 : Nat) : Int)) (rd l k)
    rw [hl] at this
    rw [← e1]
    rw [← e1] at this
    exact this
  have := swap_sum (l.take k) (l.drop (k + 2)) (rd l k) (rd l ((k + 1 : Nat) : Int)) (hb.at_ k (by omega)) (hb.at_ (k + 1) h)
  rw [← e1, ← e2] at this
  exact this
theorem swapped_byt {l : List Int} (hb : Byt l) (k : Nat) (h : k + 1 < l.length) : Byt (swapped l k) := by
  intro x hx
  unfold swapped at hx
  rcases List.mem_or_eq_of_mem_set hx with hx | rfl
  · rcases List.mem_or_eq_of_mem_set hx with hx | rfl
    · exact hb x hx
    · exact hb.at_ (k + 1) h
  · exact hb.at_ k (by omega)
end Go.Proofs.Ytcgmnmohpkolmaa
