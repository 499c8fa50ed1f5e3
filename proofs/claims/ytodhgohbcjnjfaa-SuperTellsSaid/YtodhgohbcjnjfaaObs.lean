/- A byte of an owned row: read and put; and one changed by xor. -/
import Derived.Test.YtodhgohbcjnjfaaBase
import Derived.Laws.BitsAllLaws
namespace Go.Proofs.Ytodhgohbcjnjfaa
open Go.RowKit Go.Proofs.YtodhgohbcjnjfaaW.PrintWords Go.Proofs.YtodhgohbcjnjfaaW.PrintLast Go.Proofs.YtodhgohbcjnjfaaW.PrintMore
set_option linter.unusedVariables false
set_option linter.unusedSimpArgs false
abbrev RI (w : World) (A : Option Addr) (n : Nat) (l : List Int) : Prop := Kd.C (Kd.int .i64) w A n l
theorem nums_one (k : IntKind) (l : List Int) : ∀ v ∈ nums k l, v.oneCell' = true := fun v hv => by
  simp only [nums, List.mem_map] at hv
  obtain ⟨_, _, rfl⟩ := hv
  rfl
theorem xor8 (u x : Int) (hu : 0 ≤ u ∧ u < 256) (hx : 0 ≤ x ∧ x < 256) : (0 ≤ bits .xor .u8 u x ∧ bits .xor .u8 u x < 256) ∧ (bits .xor .u8 u x = u ↔ x = 0) := by
  rw [u8_xor u x hu.1 hu.2 hx.1 hx.2]
  have h1 : u.toNat ^^^ x.toNat < 2 ^ 8 := Nat.xor_lt_two_pow (by omega) (by omega)
  refine ⟨by omega, fun h => ?_, fun h => ?_⟩
  · have h2 : u.toNat ^^^ x.toNat = u.toNat := by omega
    have h3 : u.toNat ^^^ (u.toNat ^^^ x.toNat) = 0 := by rw [h2, Nat.xor_self]
    rw [← Nat.xor_assoc, Nat.xor_self, Nat.zero_xor] at h3
    omega
  · subst h
    simp
    omega
theorem OB_at {W : World} {base g n cap : Nat} {xs : List Int} (h : OB W base (.slice (some ⟨g, 0, none⟩) n cap) xs) (k : Nat) (hk : k < n) : W.cell? ⟨g, k, none⟩ = some (.int .u8 (rd xs k)) ∧ W.frozen? ⟨g, k, none⟩ = false := by
  have := Kd.R_celln (0 : Int) h k (by omega) (by omega)
  simpa [rd, rdOf] using this
theorem OB_put {W : World} {base g n cap : Nat} {xs : List Int} (h : OB W base (.slice (some ⟨g, 0, none⟩) n cap) xs) (k : Nat) (x : Int) : OB (W.setCell ⟨g, k, none⟩ (.int .u8 x)) base (.slice (some ⟨g, 0, none⟩) n cap) (xs.set k x) := by
  have := Kd.R_putn h k x
  simp only [Int.toNat_natCast] at this
  exact this
end Go.Proofs.Ytodhgohbcjnjfaa
