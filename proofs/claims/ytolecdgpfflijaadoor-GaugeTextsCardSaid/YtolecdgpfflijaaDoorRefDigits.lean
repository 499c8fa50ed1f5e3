/- ref01's Digits, and its text. -/
import Derived.Test.YtolecdgpfflijaaDoorFloatHundred
import Derived.Test.YtolecdgpfflijaaDoorRefGauge
namespace Go.Proofs.YtolecdgpfflijaaDoor
open Go.RowKit Go.Proofs.YtolecdgpfflijaaDoorW.PrintWords Go.Proofs.YtolecdgpfflijaaDoorW.PrintLast Go.Proofs.YtolecdgpfflijaaDoorW.PrintMore
set_option linter.unusedVariables false
set_option linter.unusedSimpArgs false
set_option maxRecDepth 100000
/-- A number's digits. -/
def dg (n : Nat) : ByteArray := ⟨(Lib.decDigits n).toArray⟩
theorem dig_one : ∀ r, r < 10 → 1 ≤ (((⟨#[48, 49, 50, 51, 52, 53, 54, 55, 56, 57]⟩ : ByteArray).extract r (⟨#[48, 49, 50, 51, 52, 53, 54, 55, 56, 57]⟩ : ByteArray).size).size : Int) ∧ (((⟨#[48, 49, 50, 51, 52, 53, 54, 55, 56, 57]⟩ : ByteArray).extract r (⟨#[48, 49, 50, 51, 52, 53, 54, 55, 56, 57]⟩ : ByteArray).size).extract 0 1) = ⟨#[UInt8.ofNat (48 + r)]⟩ := by decide +kernel
theorem dg_small {n : Nat} (h : n < 10) : dg n = ⟨#[UInt8.ofNat (48 + n)]⟩ := by
  unfold dg
  rw [Lib.decDigits, dif_pos h]
theorem ba_app (a b : List UInt8) : (⟨a.toArray⟩ : ByteArray) ++ ⟨b.toArray⟩ = ⟨(a ++ b).toArray⟩ := by
  apply ByteArray.ext
  simp
theorem dg_step {n : Nat} (h : ¬ n < 10) : dg n = dg (n / 10) ++ ⟨#[UInt8.ofNat (48 + n % 10)]⟩ := by
  unfold dg
  rw [Lib.decDigits, dif_neg h]
  exact (ba_app _ _).symm
theorem dg_size (n : Nat) (h : n < 10 ^ 20) : (dg n).size ≤ 20 := by
  show (Lib.decDigits n).toArray.size ≤ 20
  rw [List.size_toArray]
  exact nDig_le n h
set_option maxHeartbeats 4000000 in
theorem rdigits_calls : ∀ (n : Nat) (h : n < 1000000000000000000) (w : World),
    Calls Tryd.prog 41 #[.int .i64 n] w fun e w' => e = .returned (.string (dg n)) ∧ Below w.heap.size w w' := by
  intro n
  induction n using Nat.strongRecOn with
  | _ n ih =>
  intro h w
  by_cases h10 : n < 10
  · obtain ⟨d1, d2⟩ := dig_one n h10
    have HD := Aside0.mk (show dg n = ((⟨#[48, 49, 50, 51, 52, 53, 54, 55, 56, 57]⟩ : ByteArray).extract n 10).extract 0 1 from by rw [dg_small h10]; exact d2.symm)
    have h0 : (0 : Int) ≤ (n : Int) := by omega
    have h1 : (n : Int) < 10 := by omega
    have h2 : (1 : Int) ≤ ((10 - n : Nat) : Int) := by omega
    clear d1 d2 ih
    go_enter Tryd.func41, Tryd.ntmps41
    go_wp2
    go_ret
    exact ⟨by rw [HD.out]; first | rfl | simp, Below.refl _ _⟩
  · obtain ⟨d1, d2⟩ := dig_one (n % 10) (by omega)
    have HD := Aside0.mk (show dg n = dg (n / 10) ++ ((⟨#[48, 49, 50, 51, 52, 53, 54, 55, 56, 57]⟩ : ByteArray).extract (n % 10) 10).extract 0 1 from by rw [dg_step h10]; exact congrArg _ d2.symm)
    have hsz := dg_size (n / 10) (by omega)
    have IH := Aside0.mk (ih (n / 10) (by omega) (by omega))
    have e1 : Int.tdiv (n : Int) 10 = ((n / 10 : Nat) : Int) := rfl
    have e2 : Int.tmod (n : Int) 10 = ((n % 10 : Nat) : Int) := rfl
    have hj : n / 10 < 1000000000000000000 := by omega
    have hr : n % 10 < 10 := by omega
    have h1 : ¬ (n : Int) < 10 := by omega
    clear d1 d2 ih
    generalize n / 10 = j at *
    generalize n % 10 = r at *
    have e3 : IntKind.i64.wrap (j : Int) = (j : Int) := IntWalk.i64_in _ (by omega)
    have h0 : (0 : Int) ≤ (r : Int) := by omega
    have h3 : (r : Int) ≤ 10 := by omega
    have h2 : (1 : Int) ≤ ((10 - r : Nat) : Int) := by omega
    have h4 : ¬ (r : Int) < 0 := by omega
    have hcat : ¬ 9223372036854775807 < (dg j).size + min 1 (10 - r) := by omega
    generalize dg j = D at *
    go_enter Tryd.func41, Tryd.ntmps41
    go_wp2
    refine start_ (n := 9) (S := fun w' => True) (ds := []) #[false, false, false, false, false, false, false, false, false] (by kernel_rfl) rfl rfl (trivial) (fun hHeld => ?_)
    refine pure_ (i := 0) (N := some 8) (v := ?_) (a' := ?_) #[true, false, false, false, false, false, false, false, false] rfl rfl (by kernel_rfl) (fun _ _ _ h => h) (Or.inl ⟨by rfl, ?_⟩) ?_ ?_
    rotate_left
    · intro w'
      go_simp
      with_reducible rfl
    rotate_left
    · simp only [Act.put, List.setIfInBounds_toArray, List.set_cons_zero, List.set_cons_succ, i64_w, i32_w]
      rfl
    refine pure_ (i := 1) (N := some 9) (v := ?_) (a' := ?_) #[true, true, false, false, false, false, false, false, false] rfl rfl (by kernel_rfl) (fun _ _ _ h => h) (Or.inl ⟨by rfl, ?_⟩) ?_ ?_
    rotate_left
    · intro w'
      go_simp
      with_reducible rfl
    rotate_left
    · simp only [Act.put, List.setIfInBounds_toArray, List.set_cons_zero, List.set_cons_succ, i64_w, i32_w]
      rfl
    refine pure_ (i := 3) (N := some 11) (v := ?_) (a' := ?_) #[true, true, false, true, false, false, false, false, false] rfl rfl (by kernel_rfl) (fun _ _ _ h => h) (Or.inl ⟨by rfl, ?_⟩) ?_ ?_
    rotate_left
    · intro w'
      go_simp
      with_reducible rfl
    rotate_left
    · simp only [Act.put, List.setIfInBounds_toArray, List.set_cons_zero, List.set_cons_succ, i64_w, i32_w]
      rfl
    refine pure_ (i := 4) (N := some 12) (v := ?_) (a' := ?_) #[true, true, false, true, true, false, false, false, false] rfl rfl (by kernel_rfl) (fun _ _ _ h => h) (Or.inl ⟨by rfl, ?_⟩) ?_ ?_
    rotate_left
    · intro w'
      go_simp
      with_reducible rfl
    rotate_left
    · simp only [Act.put, List.setIfInBounds_toArray, List.set_cons_zero, List.set_cons_succ, i64_w, i32_w]
      rfl
    refine pure_ (i := 5) (N := some 13) (v := ?_) (a' := ?_) #[true, true, false, true, true, true, false, false, false] rfl rfl (by kernel_rfl) (fun _ _ _ h => h) (Or.inl ⟨by rfl, ?_⟩) ?_ ?_
    rotate_left
    · intro w'
      go_simp
      with_reducible rfl
    rotate_left
    · simp only [Act.put, List.setIfInBounds_toArray, List.set_cons_zero, List.set_cons_succ, i64_w, i32_w]
      rfl
    refine pure_ (i := 6) (N := some 14) (v := ?_) (a' := ?_) #[true, true, false, true, true, true, true, false, false] rfl rfl (by kernel_rfl) (fun _ _ _ h => h) (Or.inl ⟨by rfl, ?_⟩) ?_ ?_
    rotate_left
    · intro w'
      go_simp
      with_reducible rfl
    rotate_left
    · simp only [Act.put, List.setIfInBounds_toArray, List.set_cons_zero, List.set_cons_succ, i64_w, i32_w]
      rfl
    refine one_ (i := 2) (N := some 10) #[true, true, true, true, true, true, true, false, false] rfl rfl (by kernel_rfl) (by decide) (fun K hK => ?_)
    refine goes_ Tryd.func41 (by kernel_rfl) rfl #[.int .i64 (j : Int)] (by rfl) rfl rfl (by simp only [List.map_toArray, List.map_cons, List.map_nil]; rfl) ?_
    with_reducible refine (IH.out _).mono ?_
    rintro e w3 ⟨rfl, hb3⟩
    refine ⟨_, rfl, ?_⟩
    refine hK.out _ _ (trivial) (fun hHeld => ?_)
    clear hK K
    refine norm_ (a' := ?_) ?_ ?_
    rotate_left
    · show Act.put _ (some 10) _ = _
      simp only [Act.put, List.setIfInBounds_toArray, List.set_cons_zero, List.set_cons_succ, i64_w, i32_w]
      rfl
    refine pure_ (i := 7) (N := some 15) (v := ?_) (a' := ?_) #[true, true, true, true, true, true, true, true, false] rfl rfl (by kernel_rfl) (fun _ _ _ h => h) (Or.inl ⟨by rfl, ?_⟩) ?_ ?_
    rotate_left
    · intro w'
      go_simp
      with_reducible rfl
    rotate_left
    · simp only [Act.put, List.setIfInBounds_toArray, List.set_cons_zero, List.set_cons_succ, i64_w, i32_w]
      rfl
    refine pure_ (i := 8) (N := some 2) (v := ?_) (a' := ?_) #[true, true, true, true, true, true, true, true, true] rfl rfl (by kernel_rfl) (fun _ _ _ h => h) (Or.inl ⟨by rfl, ?_⟩) ?_ ?_
    rotate_left
    · intro w'
      go_simp
      with_reducible rfl
    rotate_left
    · simp only [Act.put, List.setIfInBounds_toArray, List.set_cons_zero, List.set_cons_succ, i64_w, i32_w]
      rfl
    refine done_ (by kernel_rfl) ?_
    go_wp2
    go_ret
    exact ⟨by rw [HD.out]; rfl, below_step (below_drew (Below.refl _ _)) hb3⟩
/-- A text of hundredths, as the document puts it together. -/
def centsR (N : Nat) : ByteArray := ((dg (N / 100) ++ ⟨#[46]⟩) ++ dg (N / 10 % 10)) ++ dg (N % 10)
theorem cents_eq (N : Nat) : cents N = centsR N := by
  unfold cents centsR
  have e1 : (⟨(Lib.itoa ((N : Int) / 100)).toArray⟩ : ByteArray) = dg (N / 100) := by
    rw [show (N : Int) / 100 = ((N / 100 : Nat) : Int) from rfl, itoa_nat _ (by omega), Int.toNat_natCast]
    rfl
  have e2 : ((N : Int) % 100).toNat = N % 100 := by omega
  rw [e1, e2]
  rw [show ∀ a b c : ByteArray, a ++ b ++ c = a ++ (b ++ c) from fun a b c => ByteArray.append_assoc, show (dg (N / 100) ++ ⟨#[46]⟩ ++ dg (N / 10 % 10)) ++ dg (N % 10) = (dg (N / 100) ++ ⟨#[46]⟩) ++ (dg (N / 10 % 10) ++ dg (N % 10)) from ByteArray.append_assoc, show ∀ a b c : ByteArray, a ++ b ++ c = a ++ (b ++ c) from fun a b c => ByteArray.append_assoc]
  refine congrArg _ (congrArg _ ?_)
  show (if (N : Int) % 100 < 10 then (⟨#[48]⟩ : ByteArray) ++ dg (N % 100) else dg (N % 100)) = _
  by_cases h : N % 100 < 10
  · rw [if_pos (by omega), show N / 10 % 10 = 0 from by omega, show N % 100 = N % 10 from by omega, dg_small (n := 0) (by omega)]
    rfl
  · rw [if_neg (by omega), dg_step h, dg_small (n := N % 100 / 10) (by omega), dg_small (n := N / 10 % 10) (by omega), dg_small (n := N % 10) (by omega)]
    rw [show N % 100 / 10 = N / 10 % 10 from by omega, show N % 100 % 10 = N % 10 from by omega]
end Go.Proofs.YtolecdgpfflijaaDoor
