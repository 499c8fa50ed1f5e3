/- florilegiumkeep's Within and Same[byte]: what they tell. -/
import Derived.Test.YtolecdgpfflijaaDoorBase
namespace Go.Proofs.YtolecdgpfflijaaDoor
open Go.RowKit Go.Proofs.YtolecdgpfflijaaDoorW.PrintWords Go.Proofs.YtolecdgpfflijaaDoorW.PrintLast Go.Proofs.YtolecdgpfflijaaDoorW.PrintMore
set_option linter.unusedVariables false
set_option linter.unusedSimpArgs false
/-- Any number as one from 0 to n - 1. -/
def wi (v n : Int) : Int := if n < 1 then 0 else v % n
theorem wi_bd (v n : Int) (h : 1 ≤ n) : 0 ≤ wi v n ∧ wi v n < n := by
  unfold wi
  rw [if_neg (by omega)]
  exact ⟨Int.emod_nonneg _ (by omega), Int.emod_lt_of_pos _ (by omega)⟩
theorem tmod_bd (v n : Int) (h : 1 ≤ n) : -n < v.tmod n ∧ v.tmod n < n := by
  have h1 := Int.tmod_lt_of_pos v (show 0 < n by omega)
  have h2 := Int.lt_tmod_of_pos v (show 0 < n by omega)
  omega
theorem tmod_neg (v n : Int) (h : 1 ≤ n) (h2 : v.tmod n < 0) : v.tmod n + n = v % n := by
  have h3 := tmod_bd v n h
  have h4 : (v.tmod n + n) % n = v % n := by
    rw [Int.add_emod_right]
    have := Int.tmod_add_mul_tdiv v n
    conv => rhs; rw [← this]
    rw [Int.add_mul_emod_self_left]
  rw [← h4, Int.emod_eq_of_lt (by omega) (by omega)]
theorem tmod_pos (v n : Int) (h : 1 ≤ n) (h2 : ¬ v.tmod n < 0) : v.tmod n = v % n := by
  have h3 := tmod_bd v n h
  have h4 : (v.tmod n) % n = v % n := by
    have := Int.tmod_add_mul_tdiv v n
    conv => rhs; rw [← this]
    rw [Int.add_mul_emod_self_left]
  rw [← h4, Int.emod_eq_of_lt (by omega) (by omega)]
theorem ret_int {k : IntKind} {a b : Int} (h : a = b) : Ending.returned (.int k a) = .returned (.int k b) := by rw [h]
theorem ret_bool {a b : Bool} (h : a = b) : Ending.returned (.bool a) = .returned (.bool b) := by rw [h]
set_option maxHeartbeats 1000000 in
theorem within_calls (v n : Int) (w : World) (hn : n ≤ 9223372036854775807) :
    Calls Tryd.prog 11 #[.int .i64 v, .int .i64 n] w fun e w' => e = .returned (.int .i64 (wi v n)) ∧ w = w' := by
  by_cases h1 : n < 1
  · have hw : wi v n = 0 := if_pos h1
    rw [hw]
    clear hw
    go_enter Tryd.func11, Tryd.ntmps11
    go_wp2
    go_ret
    exact ⟨rfl, rfl⟩
  · have hw : wi v n = v % n := if_neg h1
    rw [hw]
    clear hw
    have hz : (n == 0) = false := by simp; omega
    have hz' : ¬ n = 0 := by omega
    have hb := tmod_bd v n (by omega)
    obtain ⟨hb1, hb2⟩ := hb
    by_cases h2 : v.tmod n < 0
    · have HF := Aside0.mk (tmod_neg v n (by omega) h2)
      go_enter Tryd.func11, Tryd.ntmps11
      go_wp2
      go_ret
      exact ⟨ret_int HF.out, rfl⟩
    · have HF := Aside0.mk (tmod_pos v n (by omega) h2)
      go_enter Tryd.func11, Tryd.ntmps11
      go_wp2
      go_ret
      exact ⟨ret_int HF.out, rfl⟩
theorem eq_of_len_take {l m : List Int} (h : l.length = m.length) (ht : l.take l.length = m.take l.length) : l = m := by
  rw [List.take_length, h, List.take_length] at ht
  exact ht
theorem ne_of_rd {l m : List Int} (k : Nat) (h : rd l k ≠ rd m k) : l ≠ m := fun e => h (by rw [e])
end Go.Proofs.YtolecdgpfflijaaDoor
