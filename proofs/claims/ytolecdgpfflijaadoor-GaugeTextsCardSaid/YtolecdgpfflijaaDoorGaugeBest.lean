/- gauge's Best. -/
import Derived.Test.YtolecdgpfflijaaDoorGaugeLess
namespace Go.Proofs.YtolecdgpfflijaaDoor
open Go.RowKit Go.Proofs.YtolecdgpfflijaaDoorW.PrintWords Go.Proofs.YtolecdgpfflijaaDoorW.PrintLast Go.Proofs.YtolecdgpfflijaaDoorW.PrintMore
set_option linter.unusedVariables false
set_option linter.unusedSimpArgs false
set_option maxRecDepth 1000000
/-- Rows of floats. -/
abbrev KF : Kd Nat := Kd.scalar (Value.float .f64) (fun _ => rfl)
theorem at_fl {w : World} {A : Option Addr} {n : Nat} {xs : List Nat} (h : KF.C w A n xs) (i : Int) (h0 : 0 ≤ i) (h1 : i < n) : ∃ ad, A = some ad ∧ w.cell? (ad.add i.toNat) = some (.float .f64 (rdOf 0 xs i)) :=
  ReadsOf.at_ (Kd.reads_of_C (enc := Value.float .f64) (d := (0 : Nat)) (h1 := fun _ => rfl) h) i h0 h1
def bestT (l : List Nat) (b : Int) (k : Nat) : Bool := !nanB (rdOf 0 l k) && (decide (b < 0) || decide (key (rdOf 0 l b) < key (rdOf 0 l k)))
def bestAt (l : List Nat) : Nat → Int
  | 0 => -1
  | k + 1 => if bestT l (bestAt l k) k = true then (k : Int) else bestAt l k
theorem bestAt_in (l : List Nat) (k : Nat) : -1 ≤ bestAt l k ∧ bestAt l k < k := by
  induction k with
  | zero => simp [bestAt]
  | succ k ih =>
    rw [bestAt]
    split <;> omega
theorem rdOf_lt {l : List Nat} (h : ∀ x ∈ l, x < 18446744073709551616) (i : Int) : rdOf 0 l i < 18446744073709551616 := by
  unfold rdOf
  rw [List.getD_eq_getElem?_getD]
  cases hg : l[i.toNat]? with
  | none => decide
  | some x => exact h x (List.mem_of_getElem? hg)
set_option maxHeartbeats 4000000 in
theorem best_calls (A : Option Addr) (n c : Nat) (l : List Nat) (w : World) (hr : KF.C w A n l) (hl : ∀ x ∈ l, x < 18446744073709551616) :
    Calls Tryd.prog 22 #[.slice A n c] w fun e w' => e = .returned (.int .i64 (bestAt l n)) ∧ Drawn0 w w' := by
  obtain rfl : l.length = n := Kd.C_len hr
  have HR := Aside0.mk hr
  have HLN := Aside0.mk (Kd.C_max hr)
  have HL := Aside0.mk (rdOf_lt hl)
  clear hr hl
  generalize l.length = n at *
  go_enter Tryd.func22, Tryd.ntmps22
  go_wp2
  go_loopw [3, 8] (fun b i wr => ∃ k : Nat, k ≤ n ∧ i = .int .i64 k ∧ b = .int .i64 (bestAt l k) ∧ Drawn0 w wr) (fun _ i _ => n - (intOf i).toNat)
  case atStart => exact ⟨0, by omega, rfl, rfl, by repeat (first | exact Drawn0.refl _ | apply Drawn0.step)⟩
  case round =>
    obtain ⟨k, hk, rfl, rfl, ⟨m, rfl⟩⟩ := hrel
    have hln := HLN.out
    have hst := bestAt_in l k
    have HST := Aside0.mk (show bestAt l (k + 1) = if bestT l (bestAt l k) k = true then (k : Int) else bestAt l k from rfl)
    generalize hbe : bestAt l k = b at *
    have HBE := Aside0.mk hbe
    clear hbe
    by_cases hlt : k < n
    · have k0 : (0 : Int) ≤ (k : Int) := by omega
      have k1 : (k : Int) < n := by omega
      obtain ⟨ad, rfl, hc⟩ := at_fl HR.out k k0 k1
      have HX := Aside0.mk (HL.out k)
      have HB := Aside0.mk (HL.out b)
      have ht := t_eq (rdOf 0 l k)
      have HT := Aside0.mk (show bestT l b k = (!nanB (rdOf 0 l k) && (decide (b < 0) || decide (key (rdOf 0 l b) < key (rdOf 0 l k)))) from rfl)
      generalize rdOf 0 l k = x at *
      rw [Int.toNat_natCast] at hc
      cases hn : nanB x
      · rw [hn] at ht
        by_cases hb : b < 0
        · have hT : bestT l b k = true := by rw [HT.out, hn, decide_eq_true hb]; rfl
          go_wp2
          go_roundw
          case rel => exact ⟨k + 1, by omega, by go_num, by rw [HST.out, if_pos hT], by repeat (first | exact Drawn0.refl _ | apply Drawn0.step)⟩
          case measure => simp [intOf]; omega
        · have hT : bestT l b k = decide (key (rdOf 0 l b) < key x) := by rw [HT.out, hn, decide_eq_false hb]; rfl
          have b0 : (0 : Int) ≤ b := by omega
          have b1 : b < n := by omega
          obtain ⟨ad2, e2, hd⟩ := at_fl HR.out b b0 b1
          cases e2
          generalize rdOf 0 l b = y at *
          go_wp2_with fail
          ((with_reducible refine (less_calls y x _ HB.out HX.out).mono ?_); rw [← hT]; rintro e w1 ⟨rfl, rfl⟩)
          cases hq : bestT l b k
          · go_wp2
            go_roundw
            case rel => exact ⟨k + 1, by omega, by go_num, by rw [HST.out, hq]; rfl, by repeat (first | exact Drawn0.refl _ | apply Drawn0.step)⟩
            case measure => simp [intOf]; omega
          · go_wp2
            go_roundw
            case rel => exact ⟨k + 1, by omega, by go_num, by rw [HST.out, hq]; rfl, by repeat (first | exact Drawn0.refl _ | apply Drawn0.step)⟩
            case measure => simp [intOf]; omega
      · rw [hn] at ht
        have hT : bestT l b k = false := by rw [HT.out, hn]; rfl
        go_wp2
        go_roundw
        case rel => exact ⟨k + 1, by omega, by go_num, by rw [HST.out, hT]; rfl, by repeat (first | exact Drawn0.refl _ | apply Drawn0.step)⟩
        case measure => simp [intOf]; omega
    · obtain rfl : k = n := by omega
      go_wp2
      go_ret
      exact ⟨by rw [HBE.out]; rfl, by repeat (first | exact Drawn0.refl _ | apply Drawn0.step)⟩
end Go.Proofs.YtolecdgpfflijaaDoor
