/- DiskRots returns true: a byte that is spoilt is another one; spoilt the same way again it is as it was. -/
import Derived.Test.YtcgmnmohpkolmaaDiskLaw
namespace Go.Proofs.Ytcgmnmohpkolmaa
open Go.RowKit Go.Proofs.YtcgmnmohpkolmaaW.PrintWords Go.Proofs.YtcgmnmohpkolmaaW.PrintLast Go.Proofs.YtcgmnmohpkolmaaW.PrintMore
set_option linter.unusedVariables false
set_option linter.unusedSimpArgs false
set_option maxRecDepth 100000
/-- The disk of the statement, sector 1 written, and held or not. -/
def rk1 : DS := ((newDS 3).write 3 1 (List.replicate 64 9)).2
def rk2 (wet : Bool) : DS := if wet = true then rk1 else rk1.barrier.2
theorem rk_write : (newDS 3).write 3 1 (List.replicate 64 9) = (0, rk1) := Prod.ext (by decide +kernel) rfl
theorem rk_barrier : rk1.barrier = (0, rk2 false) := Prod.ext (by decide +kernel) rfl
theorem rk_now (wet : Bool) : (rk2 wet).now = [List.replicate 64 0, List.replicate 64 9, List.replicate 64 0] := by cases wet <;> decide +kernel
theorem rk_pend (wet : Bool) : (rk2 wet).pending.length = if wet = true then 1 else 0 := by cases wet <;> decide +kernel
theorem rot_no (s : DS) (N : Nat) (i p x : Int) (h : DS.rots N i p x = false) : s.rot N i p x = s := by
  unfold DS.rot
  rw [h]
  rfl
theorem rot_now (s : DS) (N : Nat) (i p x : Int) (h : DS.rots N i p x = true) : (s.rot N i p x).now = flipAt s.now i.toNat p.toNat x := by
  unfold DS.rot
  rw [if_pos h]
theorem rot_pending (s : DS) (N : Nat) (i p x : Int) : (s.rot N i p x).pending = s.pending := by
  unfold DS.rot DS.pending
  split <;> rfl
theorem or8 (x : Int) (hx : 0 ≤ x ∧ x < 256) : (0 ≤ bits .or .u8 x 1 ∧ bits .or .u8 x 1 < 256) ∧ bits .or .u8 x 1 ≠ 0 := by
  rw [u8_or x 1 hx.1 hx.2 (by omega) (by omega)]
  have h1 : x.toNat ||| (1 : Int).toNat < 2 ^ 8 := Nat.or_lt_two_pow (by omega) (by decide)
  refine ⟨by omega, fun h => ?_⟩
  have h2 : x.toNat ||| (1 : Int).toNat = 0 := by omega
  have := (Nat.or_eq_zero_iff.1 h2).2
  simp at this
theorem xor_back (u y : Int) (hu : 0 ≤ u ∧ u < 256) (hy : 0 ≤ y ∧ y < 256) : bits .xor .u8 (bits .xor .u8 u y) y = u := by
  have h1 := xor8b u y hu hy
  rw [u8_xor _ y h1.1 h1.2 hy.1 hy.2, u8_xor u y hu.1 hu.2 hy.1 hy.2, Int.toNat_natCast, Nat.xor_assoc, Nat.xor_self, Nat.xor_zero]
  omega
theorem flip_one (Z M Z' : List Int) (p : Nat) (y : Int) : flipAt [Z, M, Z'] 1 p y = [Z, M.set p (bits .xor .u8 (rd M p) y), Z'] := rfl
theorem rd_rep (n : Nat) (x : Int) (p : Nat) (h : p < n) : rd (List.replicate n x) p = x := by simp [rd, List.getD, h]
theorem rd_set (l : List Int) (p : Nat) (h : p < l.length) (z : Int) : rd (l.set p z) p = z := by simp [rd, List.getD, h]
/-- Spoilt: what is read. -/
theorem rot_read1 (s : DS) (Z M Z' : List Int) (hs : s.now = [Z, M, Z']) (p : Nat) (y : Int) (h : DS.rots 3 1 p y = true) : (s.rot 3 1 p y).now = [Z, M.set p (bits .xor .u8 (rd M p) y), Z'] := by
  rw [rot_now s 3 1 p y h, hs]
  exact flip_one Z M Z' p y
theorem read_one (s : DS) (Z M Z' : List Int) (hs : s.now = [Z, M, Z']) : s.read 3 1 = M := by
  unfold DS.read
  rw [if_pos (by decide), hs]
  rfl
theorem RB_set {w : World} {A : Option Addr} {n : Nat} {l : List Int} (h : RB w A n l) (p : Addr) (v : Value) (hA : ∀ ad, A = some ad → ad.block ≠ p.block) : RB (w.setCell p v) A n l :=
  RI_but (S := fun i => i = p.block) h (But.set (S := fun i => i = p.block) (But.refl _ w) rfl v) (fun ad e => hA ad e)
end Go.Proofs.Ytcgmnmohpkolmaa
