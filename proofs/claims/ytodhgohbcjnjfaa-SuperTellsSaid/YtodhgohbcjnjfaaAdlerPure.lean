/- Plain facts on the sum of bytes (no program). -/
import Derived.Test.YtodhgohbcjnjfaaBase
namespace Go.Proofs.Ytodhgohbcjnjfaa
open Go.RowKit Go.Proofs.YtodhgohbcjnjfaaW.PrintWords Go.Proofs.YtodhgohbcjnjfaaW.PrintLast Go.Proofs.YtodhgohbcjnjfaaW.PrintMore
/-- The two halves of the sum. -/
def ad (l : List Int) : Int × Int := l.foldl (fun p c => ((p.1 + c) % 65521, (p.2 + (p.1 + c) % 65521) % 65521)) (1, 0)
def adler (l : List Int) : Int := (ad l).2 * 65536 + (ad l).1
theorem ad_snoc (l : List Int) (c : Int) : ad (l ++ [c]) = (((ad l).1 + c) % 65521, ((ad l).2 + ((ad l).1 + c) % 65521) % 65521) := by
  simp [ad, List.foldl_append]
theorem ad_bd (l : List Int) : (0 ≤ (ad l).1 ∧ (ad l).1 < 65521) ∧ 0 ≤ (ad l).2 ∧ (ad l).2 < 65521 := by
  rcases List.eq_nil_or_concat l with rfl | ⟨l', c, rfl⟩
  · simp [ad]
  · rw [List.concat_eq_append, ad_snoc]
    simp only
    omega
theorem ad_step (l : List Int) (k : Nat) (h : k < l.length) : ad (l.take (k + 1)) = (((ad (l.take k)).1 + rd l k) % 65521, ((ad (l.take k)).2 + ((ad (l.take k)).1 + rd l k) % 65521) % 65521) := by
  rw [take_snocI l k h, ad_snoc]
/-- The four bytes of a sum. -/
def be4 (n : Int) : List Int := [n / 16777216 % 256, n / 65536 % 256, n / 256 % 256, n % 256]
theorem be4_byt (n : Int) : Byt (be4 n) := by
  intro x hx
  simp only [be4, List.mem_cons, List.not_mem_nil, or_false] at hx
  omega
theorem adler_bd (l : List Int) : 0 ≤ adler l ∧ adler l < 4294967296 := by
  have := ad_bd l
  unfold adler
  omega
def sealed (l : List Int) : List Int := be4 (adler l) ++ l
end Go.Proofs.Ytodhgohbcjnjfaa
