/- The bits of numbers put side by side: or is a sum. -/
import Derived.Test.YtodhgohbcjnjfaaBase
import Derived.Laws.BitsAllLaws
namespace Go.Proofs.Ytodhgohbcjnjfaa
open Go.RowKit Go.Proofs.YtodhgohbcjnjfaaW.PrintWords Go.Proofs.YtodhgohbcjnjfaaW.PrintLast Go.Proofs.YtodhgohbcjnjfaaW.PrintMore
set_option linter.unusedVariables false
set_option linter.unusedSimpArgs false
theorem wraps_i64 (n : Int) (h0 : 0 ≤ n) (h1 : n < 2 ^ 40) : IntKind.i64.wrap n = n := by
  rw [IntKind.wrap_i64]
  omega
theorem or_i64 (i : Nat) (x y : Int) (hx0 : 0 ≤ x) (hx : x % 2 ^ i = 0) (hx1 : x < 2 ^ 40) (hy0 : 0 ≤ y) (hy : y < 2 ^ i) (hi : y < 2 ^ 40) : bits .or .i64 x y = x + y :=
  bits_join .i64 40 (by decide) wraps_i64 i x y hx0 hx hx1 hy0 hy hi
theorem or4 (n : Int) (h0 : 0 ≤ n) (h1 : n < 4294967296) : bits .or .i64 (bits .or .i64 (bits .or .i64 (wrap64 (wrap64 (n / 16777216 % 256) * 16777216)) (wrap64 (wrap64 (n / 65536 % 256) * 65536))) (wrap64 (wrap64 (n / 256 % 256) * 256))) (wrap64 (n % 256)) = n := by
  have e : ∀ x : Int, 0 ≤ x → x < 4294967296 → wrap64 x = x := fun x a b => by unfold wrap64; omega
  rw [e (n / 16777216 % 256) (by omega) (by omega), e (n / 65536 % 256) (by omega) (by omega), e (n / 256 % 256) (by omega) (by omega), e (n % 256) (by omega) (by omega), e _ (by omega) (by omega), e _ (by omega) (by omega), e _ (by omega) (by omega)]
  rw [or_i64 24 (n / 16777216 % 256 * 16777216) (n / 65536 % 256 * 65536) (by omega) (by omega) (by omega) (by omega) (by omega) (by omega)]
  rw [or_i64 16 _ (n / 256 % 256 * 256) (by omega) (by omega) (by omega) (by omega) (by omega) (by omega)]
  rw [or_i64 8 _ (n % 256) (by omega) (by omega) (by omega) (by omega) (by omega) (by omega)]
  omega
end Go.Proofs.Ytodhgohbcjnjfaa
