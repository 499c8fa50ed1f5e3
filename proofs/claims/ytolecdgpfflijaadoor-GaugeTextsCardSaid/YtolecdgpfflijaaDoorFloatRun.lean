/- The arithmetic of doubles in a walk: what each operation runs to, a NaN's bits drawn. -/
import Derived.Test.YtolecdgpfflijaaDoorBase
import Derived.Test.YtolecdgpfflijaaDoorFloatPure
import Derived.Laws.FloatArith
import Derived.WalkLawsBesides
import Derived.Laws.Externs
namespace Go.Proofs.YtolecdgpfflijaaDoor
open Go.RowKit Go.Proofs.YtolecdgpfflijaaDoorW.PrintWords Go.Proofs.YtolecdgpfflijaaDoorW.PrintLast Go.Proofs.YtolecdgpfflijaaDoorW.PrintMore
set_option linter.unusedVariables false
set_option linter.unusedSimpArgs false
/-- What an operation on two doubles comes to. -/
def Comes (o : Option Nat) (r : Nat) : Prop := match o with | some q => r = q | none => nanB r = true
theorem nan_cut (x y t : Nat) : nanB (Question.cut (.nanBits .f64 x y) t) = true ∧ Question.cut (.nanBits .f64 x y) t < 18446744073709551616 := by
  have h : Question.cut (.nanBits .f64 x y) t = (t % 2) * 2 ^ 63 + 0x7ff0000000000000 + 1 + (t / 2) % (2 ^ 52 - 1) := rfl
  rw [h]
  unfold nanB rg
  constructor
  · apply decide_eq_true
    have : t / 2 % (2 ^ 52 - 1) < 2 ^ 52 - 1 := Nat.mod_lt _ (by decide)
    rcases Nat.mod_two_eq_zero_or_one t with e | e <;> rw [e] <;> omega
  · have : t / 2 % (2 ^ 52 - 1) < 2 ^ 52 - 1 := Nat.mod_lt _ (by decide)
    rcases Nat.mod_two_eq_zero_or_one t with e | e <;> rw [e] <;> omega
theorem run_float {P : Program} (op : BinOp) (hop : op = .add ∨ op = .sub ∨ op = .mul ∨ op = .quo) (t : TypeId) (x y : Nat) (w : World) :
    ∃ r n, (binOp op t (.float .f64 x) (.float .f64 y)).run P w = .ok (.float .f64 r) (w.drewN n) ∧ r < 18446744073709551616 ∧ Comes (floatBits op .f64 x y) r := by
  cases h : floatBits op .f64 x y with
  | some q =>
    refine ⟨q, 0, run_float_arith w op t .f64 x y q h, ?_, rfl⟩
    have := floatBits_wf h
    simpa [Lit.wf] using this
  | none =>
    refine ⟨Question.cut (.nanBits .f64 x y) (w.tape w.drawn (.nanBits .f64 x y)), 1, ?_, (nan_cut x y _).2, (nan_cut x y _).1⟩
    rcases hop with rfl | rfl | rfl | rfl <;> simp only [floatBits] at h <;> simp [binOp, Op.floatArith, h, Question.forced] <;> rfl
end Go.Proofs.YtolecdgpfflijaaDoor
