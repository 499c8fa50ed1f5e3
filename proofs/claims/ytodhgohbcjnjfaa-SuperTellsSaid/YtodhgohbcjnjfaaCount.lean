/- bytes.Count of one nought: is all of it noughts? -/
import Derived.Test.YtodhgohbcjnjfaaBase
import Derived.Shelf.Bytes.SlCountOne
namespace Go.Proofs.Ytodhgohbcjnjfaa
open Go.RowKit Go.Proofs.YtodhgohbcjnjfaaW.PrintWords Go.Proofs.YtodhgohbcjnjfaaW.PrintLast Go.Proofs.YtodhgohbcjnjfaaW.PrintMore
set_option linter.unusedVariables false
set_option linter.unusedSimpArgs false
def allZ (l : List Int) : Bool := l.all fun x => x == 0
theorem count_all (l : List Int) (hb : Byt l) : ((Lib.countByte (Lib.bytesOf l) 0 : Nat) : Int) = (l.length : Int) ↔ allZ l = true := by
  have h1 : ∀ (m : List UInt8), m.count 0 = m.length ↔ ∀ x ∈ m, (0 : UInt8) = x := fun m => List.count_eq_length
  unfold Lib.countByte Lib.bytesOf allZ
  have h2 := h1 (l.map fun n => UInt8.ofNat n.toNat)
  rw [List.length_map] at h2
  rw [Int.ofNat_inj, h2, List.all_eq_true]
  constructor
  · intro h x hx
    have h3 := h _ (List.mem_map_of_mem hx)
    have h4 := congrArg UInt8.toNat h3
    simp only [UInt8.toNat_ofNat'] at h4
    have := hb x hx
    simp
    have h5 : (0 : UInt8).toNat = 0 := rfl
    omega
  · intro h y hy
    obtain ⟨x, hx, rfl⟩ := List.mem_map.1 hy
    have := h x hx
    simp at this
    subst this
    rfl
theorem count_le (l : List Int) : Lib.countByte (Lib.bytesOf l) 0 ≤ l.length := by
  unfold Lib.countByte Lib.bytesOf
  have := List.count_le_length (a := (0 : UInt8)) (l := l.map fun n => UInt8.ofNat n.toNat)
  rwa [List.length_map] at this
set_option maxRecDepth 1000000 in
set_option maxHeartbeats 2000000 in
theorem count0_calls (A : Option Addr) (nl c : Nat) (l : List Int) (g d : Nat) (w : World) (hr : RB w A nl l) (hb : Byt l) (h2 : w.cell? ⟨g, 0, none⟩ = some (.int .u8 0)) :
    Calls Try.prog 92 #[.slice A nl c, .slice (some ⟨g, 0, none⟩) 1 d] w fun e w' => ∃ n : Int, e = .returned (.int .i64 n) ∧ (n = (nl : Int) ↔ allZ l = true) ∧ w = w' := by
  obtain rfl : l.length = nl := Kd.C_len hr
  have HA := Aside0.mk (count_all l hb)
  have hrun : ∀ (W : World), RB W A l.length l → (Extern.BytealgCount.count #[.slice A l.length c, .int .u8 0]).run Try.prog W = .ok (.int .i64 (Lib.countByte (Lib.bytesOf l) 0)) W := fun W hW => by
    cases A with
    | none =>
      have h0 : l.length = 0 := by
        by_cases h : 0 < l.length
        · obtain ⟨ad, e, _⟩ := hW.2.2 h
          cases e
        · omega
      obtain rfl : l = [] := List.eq_nil_of_length_eq_zero h0
      exact Lib.run_countNil W 0 c 0
    | some a =>
      refine Lib.run_countAt W a l.length c l rfl (fun i hi => ?_) 0
      obtain ⟨ad, e, hc⟩ := Kd.at_int hW (i : Int) (by omega) (by omega)
      cases e
      rw [Int.toNat_natCast] at hc
      rw [hc]
      simp [rd]
  have HRUN := Aside0.mk (hrun w hr)
  clear hrun hb hr
  go_enter Try.func92, Try.ntmps92
  go_wp2
  rw [run_callFunc_extern Try.func118 (by kernel_rfl) (by kernel_rfl) (by kernel_rfl) (e := Extern.BytealgCount.count) (by kernel_rfl), HRUN.out]
  simp only [Result.andThen]
  rw [Oper.upon_value]
  go_wp2
  go_ret
  exact ⟨_, rfl, HA.out, rfl⟩
end Go.Proofs.Ytodhgohbcjnjfaa
