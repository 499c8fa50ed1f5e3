/- gauge's digits: hundredths as a text. -/
import Derived.Test.YtolecdgpfflijaaDoorGaugeShare
import Derived.Test.YtolecdgpfflijaaDoorShelf
namespace Go.Proofs.YtolecdgpfflijaaDoor
open Go.Sort (grow)
open Go.RowKit Go.Proofs.YtolecdgpfflijaaDoorW.PrintWords Go.Proofs.YtolecdgpfflijaaDoorW.PrintLast Go.Proofs.YtolecdgpfflijaaDoorW.PrintMore
set_option linter.unusedVariables false
set_option linter.unusedSimpArgs false
set_option maxRecDepth 1000000
/-- The table of tens, where a walk needs it. -/
abbrev Tens (w : World) : Prop := Lib.TabIs Tryd.prog w "internal/strconv.uint64pow10" .u64 Lib.pow10Tab
theorem below_grow (w : World) (k : Nat) (os : Array Obj) : Below w.heap.size w (grow (w.drewN k) os) :=
  ⟨rfl, rfl, rfl, by simp [grow], fun i hi => by show (w.heap ++ os)[i]? = _; exact Array.getElem?_append_left hi⟩
theorem itoa_calls (n : Int) (w : World) (h0 : -9223372036854775808 ≤ n) (h1 : n ≤ 9223372036854775807) (ht : Tens w) :
    Calls Tryd.prog 43 #[.int .i64 n] w fun e w' => e = .returned (.string ⟨(Lib.itoa n).toArray⟩) ∧ Below w.heap.size w w' :=
  (Sh.Tryd.strconv_Itoa n h0 h1 w ht).mono fun e w' ⟨he, k, os, hw⟩ => ⟨he, by rw [hw]; exact below_grow w k os⟩
theorem Tens.below {w w1 : World} (h : Tens w) (hb : Below w.heap.size w w1) : Tens w1 := by
  unfold Tens Lib.TabIs World.var? at *
  cases hg : Tryd.prog.globalNamed "internal/strconv.uint64pow10" with
  | none => rw [hg] at h; simp at h
  | some g =>
    rw [hg] at h
    simp only [Option.bind_some] at h ⊢
    have hlt : g < w.heap.size := by
      by_cases k : g < w.heap.size
      · exact k
      · rw [Array.getElem?_eq_none (by omega)] at h
        simp at h
    rw [hb.block g hlt]
    exact h
theorem itoa_nat (n : Int) (h : 0 ≤ n) : Lib.itoa n = Lib.decDigits n.toNat := by
  unfold Lib.itoa
  rw [if_neg (by omega)]
theorem nDig (k : Nat) : ∀ u : Nat, u < 10 ^ (k + 1) → (Lib.decDigits u).length ≤ k + 1 := by
  induction k with
  | zero =>
    intro u h
    rw [Lib.decDigits_one (by omega)]
    simp
  | succ k ih =>
    intro u h
    by_cases h10 : u < 10
    · rw [Lib.decDigits_one h10]
      simp
    · have hq : u / 10 < 10 ^ (k + 1) := by
        rw [Nat.pow_succ] at h
        omega
      have := ih (u / 10) hq
      rw [Lib.decDigits, dif_neg h10, List.length_append, List.length_singleton]
      omega
theorem nDig_le (u : Nat) (h : u < 10 ^ 20) : (Lib.decDigits u).length ≤ 20 := nDig 19 u h
/-- Hundredths as a text. -/
def cents (n : Int) : ByteArray := ((⟨(Lib.itoa (n / 100)).toArray⟩ : ByteArray) ++ ⟨#[46]⟩) ++ (if n % 100 < 10 then (⟨#[48]⟩ : ByteArray) ++ ⟨(Lib.decDigits (n % 100).toNat).toArray⟩ else ⟨(Lib.decDigits (n % 100).toNat).toArray⟩)
def ge15 (b : Nat) : Bool := FloatKind.f64.format.order b 4831355200913801216 == some Ordering.gt || FloatKind.f64.format.order b 4831355200913801216 == some Ordering.eq
theorem run_floor {P : Program} (m : Nat) (w : World) (h : nanB m = false) : (Extern.MathFloor.toIntegral "math.archFloor" .down #[.float .f64 m]).run P w = .ok (.float .f64 (FloatKind.f64.encode ((FloatKind.f64.decode m).integral .down))) w := by
  have hd : ∀ s t, FloatKind.f64.decode m ≠ .nan s t := fun s t e => by
    have h' := of_decide_eq_false h
    by_cases hi : infB m = true
    · have := read_inf hi
      rw [show FloatKind.f64.decode m = Ieee.double.read m from rfl, this] at e
      cases e
    · have hi' := of_decide_eq_false (by simpa using hi : infB m = false)
      have := read_num (b := m) (by omega)
      rw [show FloatKind.f64.decode m = Ieee.double.read m from rfl, this] at e
      cases e
  show Sem.run P (Extern.MathFloor.toIntegral.match_1 (fun _ => Sem Value) (FloatKind.f64.decode m) _ _) w = _
  generalize FloatKind.f64.decode m = d at *
  cases d with
  | nan s t => exact absurd rfl (hd s t)
  | number s t e => rfl
  | infinity s => rfl
set_option maxHeartbeats 1000000 in
theorem floor_calls (m f : Nat) (w : World) (h : (Extern.MathFloor.toIntegral "math.archFloor" .down #[.float .f64 m]).run Tryd.prog w = .ok (.float .f64 f) w) :
    Calls Tryd.prog 56 #[.float .f64 m] w fun e w' => e = .returned (.float .f64 f) ∧ w = w' := by
  have H := Aside0.mk h
  clear h
  go_enter Tryd.func56, Tryd.ntmps56
  go_wp2
  rw [run_callFunc_extern Tryd.func74 (by kernel_rfl) (by kernel_rfl) (by kernel_rfl) (e := Extern.MathFloor.toIntegral "math.archFloor" .down) (by kernel_rfl), H.out]
  simp only [Result.andThen]
  rw [Oper.upon_value]
  go_wp2
  go_ret
  exact ⟨rfl, rfl⟩
set_option maxHeartbeats 2000000 in
theorem digits_big (b : Nat) (w : World) (h : ge15 b = true) :
    Calls Tryd.prog 38 #[.float .f64 b] w fun e w' => e = .returned (.string ⟨#[98, 105, 103]⟩) ∧ w = w' := by
  unfold ge15 at h
  go_enter Tryd.func38, Tryd.ntmps38
  go_wp2
  go_ret
  exact ⟨rfl, rfl⟩
set_option maxHeartbeats 4000000 in
theorem digits_num (b m f : Nat) (n : Int) (wz : World) (h : ge15 b = false) (hm : floatBits .mul .f64 b 4636737291354636288 = some m) (hn : nanB m = false) (hf : FloatKind.f64.encode ((FloatKind.f64.decode m).integral .down) = f)
    (hi : floatToIntVal .f64 f .i64 = some n) (h0 : 0 ≤ n) (h1 : n ≤ 1000000000000000000) (ht : Tens wz) :
    Calls Tryd.prog 38 #[.float .f64 b] wz fun e w' => e = .returned (.string (cents n)) ∧ Below wz.heap.size wz w' := by
  unfold ge15 at h
  have hmul := run_float_arith (P := Tryd.prog) wz .mul 24 .f64 b 4636737291354636288 m hm
  have hfl := run_floor (P := Tryd.prog) m wz hn
  rw [hf] at hfl
  have hcv := run_convert_float_int (P := Tryd.prog) wz 24 3 .f64 .i64 f n (by kernel_rfl) Tryd.underlying3 hi
  have HT := Aside0.mk ht
  have HC := Aside0.mk (show cents n = ((⟨(Lib.itoa (n / 100)).toArray⟩ : ByteArray) ++ ⟨#[46]⟩) ++ (if n % 100 < 10 then (⟨#[48]⟩ : ByteArray) ++ ⟨(Lib.decDigits (n % 100).toNat).toArray⟩ else ⟨(Lib.decDigits (n % 100).toNat).toArray⟩) from rfl)
  clear hm hn hf hi ht
  go_enter Tryd.func38, Tryd.ntmps38
  go_wp2_with fail
  ((with_reducible refine (floor_calls m f _ hfl).mono ?_); rintro e w1 ⟨rfl, rfl⟩)
  clear hmul hfl
  have q0 : 0 ≤ n % 100 := by omega
  have q1 : n % 100 < 100 := by omega
  obtain ⟨j, hj⟩ : ∃ j : Nat, n % 100 = (j : Int) := ⟨(n % 100).toNat, by omega⟩
  have hj2 : j < 100 := by omega
  go_wp2_with fail
  rw [hj]
  refine (Sh.Tryd.strconv_Itoa_small j hj2 _).mono ?_
  rintro e w1 ⟨rfl, hw⟩
  have hw' := hw.symm
  clear hw
  subst hw'
  have HJ := Aside0.mk hj
  have hsz : (⟨(Lib.decDigits j).toArray⟩ : ByteArray).size ≤ 20 := by
    show (Lib.decDigits j).toArray.size ≤ 20
    rw [List.size_toArray]
    exact nDig_le j (by omega)
  generalize hD : (⟨(Lib.decDigits j).toArray⟩ : ByteArray) = D at *
  have HD := Aside0.mk hD
  clear hD
  go_upto_if 16 with (fail)
  go_cut [4] (fun s4 wx => ∃ T : ByteArray, s4 = .string T ∧ Aside0 (T = if n % 100 < 10 then (⟨#[48]⟩ : ByteArray) ++ D else D) ∧ Aside0 (T.size ≤ 21) ∧ Aside0 (wx = wz))
  case first =>
    by_cases h10 : j < 10
    · have t1 : (j : Int) < 10 := by omega
      go_wp2_with fail
      go_meet
      refine ⟨_, rfl, ⟨by rw [HJ.out, if_pos t1]⟩, ⟨?_⟩, ⟨rfl⟩⟩
      rw [ByteArray.size_append]
      show 1 + _ ≤ 21
      omega
    · have t1 : ¬ (j : Int) < 10 := by omega
      have HIF := Aside0.mk (show (if (j : Int) < 10 then (⟨#[48]⟩ : ByteArray) ++ D else D) = D from if_neg t1)
      go_wp2_with fail
      go_meet
      exact ⟨_, rfl, ⟨by rw [HJ.out, HIF.out]⟩, ⟨by omega⟩, ⟨rfl⟩⟩
  case rest =>
    obtain ⟨T, rfl, HTT, ⟨hT⟩, ⟨rfl⟩⟩ := hcut
    have q2 : 0 ≤ n / 100 := by omega
    have q3 : n / 100 ≤ 10000000000000000 := by omega
    go_wp2_with fail
    ((with_reducible refine (itoa_calls (n / 100) _ (by omega) (by omega) HT.out).mono ?_); rintro e w2 ⟨rfl, hb2⟩)
    have hI : (⟨(Lib.itoa (n / 100)).toArray⟩ : ByteArray).size ≤ 20 := by
      show (Lib.itoa (n / 100)).toArray.size ≤ 20
      rw [List.size_toArray, itoa_nat _ q2]
      exact nDig_le _ (by omega)
    generalize hX : (⟨(Lib.itoa (n / 100)).toArray⟩ : ByteArray) = X at *
    have HX := Aside0.mk hX
    clear hX
    go_wp2
    go_ret
    refine ⟨?_, hb2⟩
    rw [HC.out, HTT.out, ← HD.out, HJ.out]
    rfl
end Go.Proofs.YtolecdgpfflijaaDoor
