/- florilegiumref17's UnpackSuper: what it tells of any bytes. -/
import Derived.Test.YtodhgohbcjnjfaaRefSuper
namespace Go.Proofs.Ytodhgohbcjnjfaa
open Go.RowKit Go.Proofs.YtodhgohbcjnjfaaW.PrintWords Go.Proofs.YtodhgohbcjnjfaaW.PrintLast Go.Proofs.YtodhgohbcjnjfaaW.PrintMore
set_option linter.unusedVariables false
set_option linter.unusedSimpArgs false
set_option maxRecDepth 100000
theorem infoI' : (Try.prog.info? 3).map (fun i => (i.zero, i.size, i.bytes)) = some (some (.int .i64 0), 1, 8) := by kernel_rfl
theorem Addr.add_zero' (ad : Addr) : ad.add 0 = ad := by
  unfold Addr.add
  rw [if_pos rfl]
theorem addr_succ (ad : Addr) (p j : Nat) : ad.add (p + (j + 1)) = ⟨ad.block, ad.off + (p + (j + 1)), none⟩ := by
  unfold Addr.add
  split
  · omega
  · rfl
theorem below_drew' {B : Nat} {w W : World} (h : Below B w W) : Below B w W.drew := ⟨h.os, h.tape, h.output, h.size, h.block⟩
def n5 (l : List Int) (k : Nat) : List Int := (List.range k).map fun j => atB l (8 + 4 * j)
theorem n5_succ (l : List Int) (k : Nat) : n5 l (k + 1) = n5 l k ++ [atB l (8 + 4 * k)] := by
  unfold n5
  rw [List.range_succ, List.map_append]
  rfl
theorem n5_len (l : List Int) (k : Nat) : (n5 l k).length = k := by simp [n5]
theorem take4_eq (l : List Int) (p : Nat) (h : p + 4 ≤ l.length) : (l.drop p).take 4 = [rd l (p : Nat), rd l ((p + 1 : Nat) : Int), rd l ((p + 2 : Nat) : Int), rd l ((p + 3 : Nat) : Int)] := by
  apply List.ext_getElem
  · simp; omega
  · intro i h1 h2
    simp only [List.length_cons, List.length_nil] at h2
    rw [List.getElem_take, List.getElem_drop]
    match i, h2 with
    | 0, _ => simp [rd, List.getD]; rw [List.getElem?_eq_getElem (by omega)]; rfl
    | 1, _ => simp only [rd, List.getD, Int.toNat_natCast, List.getElem_cons_succ, List.getElem_cons_zero]; rw [List.getElem?_eq_getElem (by omega)]; rfl
    | 2, _ => simp only [rd, List.getD, Int.toNat_natCast, List.getElem_cons_succ, List.getElem_cons_zero]; rw [List.getElem?_eq_getElem (by omega)]; rfl
    | 3, _ => simp only [rd, List.getD, Int.toNat_natCast, List.getElem_cons_succ, List.getElem_cons_zero]; rw [List.getElem?_eq_getElem (by omega)]; rfl
theorem atB_or (l : List Int) (hb : Byt l) (p : Nat) (h : p + 4 ≤ l.length) :
    bits .or .i64 (bits .or .i64 (bits .or .i64 (rd l (p : Nat) * 16777216) (rd l ((p + 1 : Nat) : Int) * 65536)) (rd l ((p + 2 : Nat) : Int) * 256)) (rd l ((p + 3 : Nat) : Int)) = atB l p := by
  have b0 := hb.at_ p (by omega)
  have b1 := hb.at_ (p + 1) (by omega)
  have b2 := hb.at_ (p + 2) (by omega)
  have b3 := hb.at_ (p + 3) (by omega)
  unfold atB
  rw [take4_eq l p h]
  generalize rd l (p : Nat) = x0 at *
  generalize rd l ((p + 1 : Nat) : Int) = x1 at *
  generalize rd l ((p + 2 : Nat) : Int) = x2 at *
  generalize rd l ((p + 3 : Nat) : Int) = x3 at *
  rw [or_i64 24 (x0 * 16777216) (x1 * 65536) (by omega) (by omega) (by omega) (by omega) (by omega) (by omega)]
  rw [or_i64 16 _ (x2 * 256) (by omega) (by omega) (by omega) (by omega) (by omega) (by omega)]
  rw [or_i64 8 _ x3 (by omega) (by omega) (by omega) (by omega) (by omega) (by omega)]
  simp only [num4, List.foldl_cons, List.foldl_nil]
  omega
set_option maxHeartbeats 8000000 in
theorem runpack_calls (A : Option Addr) (nl c : Nat) (l : List Int) (w : World) (hr : RB w A nl l) (hc : nl ≤ c) (hb : Byt l) :
    Calls Try.prog 32 #[.slice A nl c] w fun e w' => e = .returned (.tuple #[(unSup l).val, .bool (isSup l)]) ∧ Below w.heap.size w w' := by
  obtain rfl : l.length = nl := Kd.C_len hr
  have hmax := Kd.C_max hr
  by_cases h64 : l.length = 64
  · have t1 : decide ((l.length : Int) = 64) = true := by simp [h64]
    rw [h64] at hr hc ⊢
    have HR := Aside0.mk hr
    have HY := Aside0.mk hb
    have H64 := Aside0.mk h64
    have HU := Aside0.mk (show unSup l = if isSup l = true then supOf l else ⟨0, 0, 0, 0, 0⟩ from rfl)
    have HI := Aside0.mk (show isSup l = ((supOf l).may && decide ((supOf l).packed = l)) by unfold isSup; rw [h64]; simp)
    have HZ := Aside0.mk (heap_alloc_new w (.cells #[.int .i64 0, .int .i64 0, .int .i64 0, .int .i64 0, .int .i64 0] 71))
    have HBZ := Aside0.mk (below_alloc (Below.refl _ w) (.cells #[.int .i64 0, .int .i64 0, .int .i64 0, .int .i64 0, .int .i64 0] 71))
    clear hr hb h64 t1 hmax
    go_enter Try.func32, Try.ntmps32
    go_wp2
    obtain ⟨W, hW⟩ : ∃ W, W = w.alloc (.cells #[.int .i64 0, .int .i64 0, .int .i64 0, .int .i64 0, .int .i64 0] 71) := ⟨_, rfl⟩
    rw [← hW]
    rw [← hW] at HZ HBZ
    have hsW : W.heap.size = w.heap.size + 1 := by rw [hW]; simp
    have HRW := Aside0.mk (show RB W A 64 l by rw [hW]; exact Kd.C_below HR.out (below_alloc (Below.refl _ _) _))
    clear hW
    go_loopw [4, 5] (fun v i wr => ∃ (k : Nat) (v0 : Value), k ≤ 5 ∧ i = .int .i64 ((8 + 4 * k : Nat) : Int) ∧ v0 = v ∧ Aside0 (Kd.R (Kd.int .i64) 3 wr W.heap.size (fun _ => True) v0 (n5 l k)) ∧ Aside0 (Below W.heap.size W wr)) (fun _ i _ => 28 - (intOf i).toNat)
    case atStart => exact ⟨0, _, by omega, rfl, rfl, ⟨Kd.R_nil _ _ _ _ _⟩, ⟨Below.refl _ _⟩⟩
    case round =>
      obtain ⟨k, v0, hk, rfl, rfl, HL, HB⟩ := hrel
      by_cases hlt : k < 5
      · have HRr := Aside0.mk (Kd.C_below HRW.out HB.out)
        obtain ⟨p, hp⟩ : ∃ p : Nat, p = 8 + 4 * k := ⟨_, rfl⟩
        have HAT := Aside0.mk (atB_or l HY.out p (by rw [H64.out]; omega))
        have HSU := Aside0.mk (show n5 l (k + 1) = n5 l k ++ [atB l p] by rw [hp]; exact n5_succ l k)
        rw [← hp]
        have hp28 : p + 4 ≤ 28 := by omega
        have HP := Aside0.mk hp
        obtain ⟨ad, e, c0⟩ := Kd.at_int HRr.out (p : Int) (by omega) (by omega)
        subst e
        obtain ⟨ad1, e, c1⟩ := Kd.at_int HRr.out ((p + 1 : Nat) : Int) (by omega) (by omega)
        cases e
        obtain ⟨ad1, e, c2⟩ := Kd.at_int HRr.out ((p + 2 : Nat) : Int) (by omega) (by omega)
        cases e
        obtain ⟨ad1, e, c3⟩ := Kd.at_int HRr.out ((p + 3 : Nat) : Int) (by omega) (by omega)
        cases e
        simp only [Int.toNat_natCast] at c0 c1 c2 c3
        rw [addr_succ] at c1 c2 c3
        have b0 := HY.out.at_ p (by rw [H64.out]; omega)
        have b1 := HY.out.at_ (p + 1) (by rw [H64.out]; omega)
        have b2 := HY.out.at_ (p + 2) (by rw [H64.out]; omega)
        have b3 := HY.out.at_ (p + 3) (by rw [H64.out]; omega)
        generalize rd l (p : Nat) = x0 at *
        generalize rd l ((p + 1 : Nat) : Int) = x1 at *
        generalize rd l ((p + 2 : Nat) : Int) = x2 at *
        generalize rd l ((p + 3 : Nat) : Int) = x3 at *
        have hp0 : (0 : Int) ≤ (p : Int) := by omega
        have hp1 : (p : Int) + 3 < 64 := by omega
        clear hp
        have j1 : IntKind.i64.wrap ((p : Int) + 1) = (p : Int) + 1 := IntWalk.i64_in _ (by omega)
        have j2 : IntKind.i64.wrap ((p : Int) + 2) = (p : Int) + 2 := IntWalk.i64_in _ (by omega)
        have j3 : IntKind.i64.wrap ((p : Int) + 3) = (p : Int) + 3 := IntWalk.i64_in _ (by omega)
        have k1 : ((p : Int) + 1).toNat = p + 1 := by omega
        have k2 : ((p : Int) + 2).toNat = p + 2 := by omega
        have k3 : ((p : Int) + 3).toNat = p + 3 := by omega
        have q1 : (0 : Int) ≤ (p : Int) + 1 := by omega
        have q2 : (0 : Int) ≤ (p : Int) + 2 := by omega
        have q3 : (0 : Int) ≤ (p : Int) + 3 := by omega
        have r0 : (p : Int) < 64 := by omega
        have r1 : (p : Int) + 1 < 64 := by omega
        have r2 : (p : Int) + 2 < 64 := by omega
        have m0 : IntKind.i64.wrap (x0 * 16777216) = x0 * 16777216 := IntWalk.i64_in _ (by omega)
        have m1 : IntKind.i64.wrap (x1 * 65536) = x1 * 65536 := IntWalk.i64_in _ (by omega)
        have m2 : IntKind.i64.wrap (x2 * 256) = x2 * 256 := IntWalk.i64_in _ (by omega)
        have e0 : IntKind.i64.wrap x0 = x0 := IntWalk.i64_in _ (by omega)
        have e1 : IntKind.i64.wrap x1 = x1 := IntWalk.i64_in _ (by omega)
        have e2 : IntKind.i64.wrap x2 = x2 := IntWalk.i64_in _ (by omega)
        have e3 : IntKind.i64.wrap x3 = x3 := IntWalk.i64_in _ (by omega)
        go_wp2
        refine start_ (n := 33) (S := fun w' => w'.cell? (ad.add p) = some (.int .u8 x0) ∧ w'.cell? ⟨ad.block, ad.off + (p + 1), none⟩ = some (.int .u8 x1) ∧ w'.cell? ⟨ad.block, ad.off + (p + 2), none⟩ = some (.int .u8 x2) ∧ w'.cell? ⟨ad.block, ad.off + (p + 3), none⟩ = some (.int .u8 x3)) (ds := [31]) #[false, false, false, false, false, false, false, false, false, false, false, false, false, false, false, false, false, false, false, false, false, false, false, false, false, false, false, false, false, false, false, false, false] (by kernel_rfl) rfl rfl ⟨c0, c1, c2, c3⟩ (fun hHeld => ?_)
        refine pure_ (i := 0) (N := some 17) (v := ?_) (a' := ?_) #[true, false, false, false, false, false, false, false, false, false, false, false, false, false, false, false, false, false, false, false, false, false, false, false, false, false, false, false, false, false, false, false, false] rfl rfl (by kernel_rfl) (fun _ _ _ h => h) (Or.inl ⟨by rfl, ?_⟩) ?_ ?_
        rotate_left
        · intro w'
          go_simp
          with_reducible rfl
        rotate_left
        · simp only [Act.put, List.setIfInBounds_toArray, List.set_cons_zero, List.set_cons_succ, i64_w, i32_w]
          rfl
        refine pure_ (i := 1) (N := some 18) (v := ?_) (a' := ?_) #[true, true, false, false, false, false, false, false, false, false, false, false, false, false, false, false, false, false, false, false, false, false, false, false, false, false, false, false, false, false, false, false, false] rfl rfl (by kernel_rfl) (fun _ _ _ h => h) (Or.inl ⟨by rfl, ?_⟩) ?_ ?_
        rotate_left
        · intro w'
          go_simp
          with_reducible rfl
        rotate_left
        · simp only [Act.put, List.setIfInBounds_toArray, List.set_cons_zero, List.set_cons_succ, i64_w, i32_w]
          rfl
        refine pure_ (i := 2) (N := some 19) (v := ?_) (a' := ?_) #[true, true, true, false, false, false, false, false, false, false, false, false, false, false, false, false, false, false, false, false, false, false, false, false, false, false, false, false, false, false, false, false, false] rfl rfl (by kernel_rfl) (fun _ _ _ h => h) (Or.inl ⟨by rfl, ?_⟩) ?_ ?_
        rotate_left
        · intro w'
          go_simp
          with_reducible rfl
        rotate_left
        · simp only [Act.put, List.setIfInBounds_toArray, List.set_cons_zero, List.set_cons_succ, i64_w, i32_w]
          rfl
        refine pure_ (i := 3) (N := some 20) (v := ?_) (a' := ?_) #[true, true, true, true, false, false, false, false, false, false, false, false, false, false, false, false, false, false, false, false, false, false, false, false, false, false, false, false, false, false, false, false, false] rfl rfl (by kernel_rfl) (fun _ _ _ h => h) (Or.inl ⟨by rfl, ?_⟩) ?_ ?_
        rotate_left
        · intro w'
          go_simp
          with_reducible rfl
        rotate_left
        · simp only [Act.put, List.setIfInBounds_toArray, List.set_cons_zero, List.set_cons_succ, i64_w, i32_w]
          rfl
        refine pure_ (i := 7) (N := some 24) (v := ?_) (a' := ?_) #[true, true, true, true, false, false, false, true, false, false, false, false, false, false, false, false, false, false, false, false, false, false, false, false, false, false, false, false, false, false, false, false, false] rfl rfl (by kernel_rfl) (fun _ _ _ h => h) (Or.inl ⟨by rfl, ?_⟩) ?_ ?_
        rotate_left
        · intro w'
          go_simp
          with_reducible rfl
        rotate_left
        · simp only [Act.put, List.setIfInBounds_toArray, List.set_cons_zero, List.set_cons_succ, i64_w, i32_w]
          rfl
        refine pure_ (i := 8) (N := some 25) (v := ?_) (a' := ?_) #[true, true, true, true, false, false, false, true, true, false, false, false, false, false, false, false, false, false, false, false, false, false, false, false, false, false, false, false, false, false, false, false, false] rfl rfl (by kernel_rfl) (fun _ _ _ h => h) (Or.inl ⟨by rfl, ?_⟩) ?_ ?_
        rotate_left
        · intro w'
          go_simp
          with_reducible rfl
        rotate_left
        · simp only [Act.put, List.setIfInBounds_toArray, List.set_cons_zero, List.set_cons_succ, i64_w, i32_w]
          rfl
        refine pure_ (i := 9) (N := some 26) (v := ?_) (a' := ?_) #[true, true, true, true, false, false, false, true, true, true, false, false, false, false, false, false, false, false, false, false, false, false, false, false, false, false, false, false, false, false, false, false, false] rfl rfl (by kernel_rfl) (fun _ _ _ h => h) (Or.inl ⟨by rfl, ?_⟩) ?_ ?_
        rotate_left
        · intro w'
          go_simp
          with_reducible rfl
        rotate_left
        · simp only [Act.put, List.setIfInBounds_toArray, List.set_cons_zero, List.set_cons_succ, i64_w, i32_w]
          rfl
        refine pure_ (i := 10) (N := some 27) (v := ?_) (a' := ?_) #[true, true, true, true, false, false, false, true, true, true, true, false, false, false, false, false, false, false, false, false, false, false, false, false, false, false, false, false, false, false, false, false, false] rfl rfl (by kernel_rfl) (fun _ _ _ h => h) (Or.inl ⟨by rfl, ?_⟩) ?_ ?_
        rotate_left
        · intro w'
          go_simp
          with_reducible rfl
        rotate_left
        · simp only [Act.put, List.setIfInBounds_toArray, List.set_cons_zero, List.set_cons_succ, i64_w, i32_w]
          rfl
        refine pure_ (i := 15) (N := some 32) (v := ?_) (a' := ?_) #[true, true, true, true, false, false, false, true, true, true, true, false, false, false, false, true, false, false, false, false, false, false, false, false, false, false, false, false, false, false, false, false, false] rfl rfl (by kernel_rfl) (fun _ _ _ h => h) (Or.inl ⟨by rfl, ?_⟩) ?_ ?_
        rotate_left
        · intro w'
          go_simp
          with_reducible rfl
        rotate_left
        · simp only [Act.put, List.setIfInBounds_toArray, List.set_cons_zero, List.set_cons_succ, i64_w, i32_w]
          rfl
        refine pure_ (i := 16) (N := some 33) (v := ?_) (a' := ?_) #[true, true, true, true, false, false, false, true, true, true, true, false, false, false, false, true, true, false, false, false, false, false, false, false, false, false, false, false, false, false, false, false, false] rfl rfl (by kernel_rfl) (fun _ _ _ h => h) (Or.inl ⟨by rfl, ?_⟩) ?_ ?_
        rotate_left
        · intro w'
          go_simp
          with_reducible rfl
        rotate_left
        · simp only [Act.put, List.setIfInBounds_toArray, List.set_cons_zero, List.set_cons_succ, i64_w, i32_w]
          rfl
        refine pure_ (i := 17) (N := some 34) (v := ?_) (a' := ?_) #[true, true, true, true, false, false, false, true, true, true, true, false, false, false, false, true, true, true, false, false, false, false, false, false, false, false, false, false, false, false, false, false, false] rfl rfl (by kernel_rfl) (fun _ _ _ h => h) (Or.inl ⟨by rfl, ?_⟩) ?_ ?_
        rotate_left
        · intro w'
          go_simp
          with_reducible rfl
        rotate_left
        · simp only [Act.put, List.setIfInBounds_toArray, List.set_cons_zero, List.set_cons_succ, i64_w, i32_w]
          rfl
        refine pure_ (i := 18) (N := some 35) (v := ?_) (a' := ?_) #[true, true, true, true, false, false, false, true, true, true, true, false, false, false, false, true, true, true, true, false, false, false, false, false, false, false, false, false, false, false, false, false, false] rfl rfl (by kernel_rfl) (fun _ _ _ h => h) (Or.inl ⟨by rfl, ?_⟩) ?_ ?_
        rotate_left
        · intro w'
          go_simp
          with_reducible rfl
        rotate_left
        · simp only [Act.put, List.setIfInBounds_toArray, List.set_cons_zero, List.set_cons_succ, i64_w, i32_w]
          rfl
        refine pure_ (i := 23) (N := some 40) (v := ?_) (a' := ?_) #[true, true, true, true, false, false, false, true, true, true, true, false, false, false, false, true, true, true, true, false, false, false, false, true, false, false, false, false, false, false, false, false, false] rfl rfl (by kernel_rfl) (fun _ _ _ h => h) (Or.inl ⟨by rfl, ?_⟩) ?_ ?_
        rotate_left
        · intro w'
          go_simp
          with_reducible rfl
        rotate_left
        · simp only [Act.put, List.setIfInBounds_toArray, List.set_cons_zero, List.set_cons_succ, i64_w, i32_w]
          rfl
        refine pure_ (i := 24) (N := some 41) (v := ?_) (a' := ?_) #[true, true, true, true, false, false, false, true, true, true, true, false, false, false, false, true, true, true, true, false, false, false, false, true, true, false, false, false, false, false, false, false, false] rfl rfl (by kernel_rfl) (fun _ _ _ h => h) (Or.inl ⟨by rfl, ?_⟩) ?_ ?_
        rotate_left
        · intro w'
          go_simp
          with_reducible rfl
        rotate_left
        · simp only [Act.put, List.setIfInBounds_toArray, List.set_cons_zero, List.set_cons_succ, i64_w, i32_w]
          rfl
        refine pure_ (i := 25) (N := some 42) (v := ?_) (a' := ?_) #[true, true, true, true, false, false, false, true, true, true, true, false, false, false, false, true, true, true, true, false, false, false, false, true, true, true, false, false, false, false, false, false, false] rfl rfl (by kernel_rfl) (fun _ _ _ h => h) (Or.inl ⟨by rfl, ?_⟩) ?_ ?_
        rotate_left
        · intro w'
          go_simp
          with_reducible rfl
        rotate_left
        · simp only [Act.put, List.setIfInBounds_toArray, List.set_cons_zero, List.set_cons_succ, i64_w, i32_w]
          rfl
        refine pure_ (i := 26) (N := some 43) (v := ?_) (a' := ?_) #[true, true, true, true, false, false, false, true, true, true, true, false, false, false, false, true, true, true, true, false, false, false, false, true, true, true, true, false, false, false, false, false, false] rfl rfl (by kernel_rfl) (fun _ _ _ h => h) (Or.inl ⟨by rfl, ?_⟩) ?_ ?_
        rotate_left
        · intro w'
          go_simp
          with_reducible rfl
        rotate_left
        · simp only [Act.put, List.setIfInBounds_toArray, List.set_cons_zero, List.set_cons_succ, i64_w, i32_w]
          rfl
        refine take_ (i := 4) (N := some 21) (v := ?_) (a' := ?_) #[true, true, true, true, true, false, false, true, true, true, true, false, false, false, false, true, true, true, true, false, false, false, false, true, true, true, true, false, false, false, false, false, false] rfl rfl (by kernel_rfl) (fun _ _ _ h => h) (Or.inl ⟨by rfl, ?_⟩) hHeld ?_ ?_
        rotate_left
        · rintro w' ⟨s0, s1, s2, s3⟩
          go_simp
          with_reducible rfl
        rotate_left
        · simp only [Act.put, List.setIfInBounds_toArray, List.set_cons_zero, List.set_cons_succ, i64_w, i32_w]
          rfl
        refine pure_ (i := 5) (N := some 22) (v := ?_) (a' := ?_) #[true, true, true, true, true, true, false, true, true, true, true, false, false, false, false, true, true, true, true, false, false, false, false, true, true, true, true, false, false, false, false, false, false] rfl rfl (by kernel_rfl) (fun _ _ _ h => h) (Or.inl ⟨by rfl, ?_⟩) ?_ ?_
        rotate_left
        · intro w'
          go_simp
          with_reducible rfl
        rotate_left
        · simp only [Act.put, List.setIfInBounds_toArray, List.set_cons_zero, List.set_cons_succ, i64_w, i32_w]
          rfl
        refine pure_ (i := 6) (N := some 23) (v := ?_) (a' := ?_) #[true, true, true, true, true, true, true, true, true, true, true, false, false, false, false, true, true, true, true, false, false, false, false, true, true, true, true, false, false, false, false, false, false] rfl rfl (by kernel_rfl) (fun _ _ _ h => h) (Or.inl ⟨by rfl, ?_⟩) ?_ ?_
        rotate_left
        · intro w'
          go_simp
          with_reducible rfl
        rotate_left
        · simp only [Act.put, List.setIfInBounds_toArray, List.set_cons_zero, List.set_cons_succ, i64_w, i32_w]
          rfl
        refine take_ (i := 11) (N := some 28) (v := ?_) (a' := ?_) #[true, true, true, true, true, true, true, true, true, true, true, true, false, false, false, true, true, true, true, false, false, false, false, true, true, true, true, false, false, false, false, false, false] rfl rfl (by kernel_rfl) (fun _ _ _ h => h) (Or.inl ⟨by rfl, ?_⟩) hHeld ?_ ?_
        rotate_left
        · rintro w' ⟨s0, s1, s2, s3⟩
          go_simp
          with_reducible rfl
        rotate_left
        · simp only [Act.put, List.setIfInBounds_toArray, List.set_cons_zero, List.set_cons_succ, i64_w, i32_w]
          rfl
        refine pure_ (i := 12) (N := some 29) (v := ?_) (a' := ?_) #[true, true, true, true, true, true, true, true, true, true, true, true, true, false, false, true, true, true, true, false, false, false, false, true, true, true, true, false, false, false, false, false, false] rfl rfl (by kernel_rfl) (fun _ _ _ h => h) (Or.inl ⟨by rfl, ?_⟩) ?_ ?_
        rotate_left
        · intro w'
          go_simp
          with_reducible rfl
        rotate_left
        · simp only [Act.put, List.setIfInBounds_toArray, List.set_cons_zero, List.set_cons_succ, i64_w, i32_w]
          rfl
        refine pure_ (i := 13) (N := some 30) (v := ?_) (a' := ?_) #[true, true, true, true, true, true, true, true, true, true, true, true, true, true, false, true, true, true, true, false, false, false, false, true, true, true, true, false, false, false, false, false, false] rfl rfl (by kernel_rfl) (fun _ _ _ h => h) (Or.inl ⟨by rfl, ?_⟩) ?_ ?_
        rotate_left
        · intro w'
          go_simp
          with_reducible rfl
        rotate_left
        · simp only [Act.put, List.setIfInBounds_toArray, List.set_cons_zero, List.set_cons_succ, i64_w, i32_w]
          rfl
        refine pure_ (i := 14) (N := some 31) (v := ?_) (a' := ?_) #[true, true, true, true, true, true, true, true, true, true, true, true, true, true, true, true, true, true, true, false, false, false, false, true, true, true, true, false, false, false, false, false, false] rfl rfl (by kernel_rfl) (fun _ _ _ h => h) (Or.inl ⟨by rfl, ?_⟩) ?_ ?_
        rotate_left
        · intro w'
          go_simp
          with_reducible rfl
        rotate_left
        · simp only [Act.put, List.setIfInBounds_toArray, List.set_cons_zero, List.set_cons_succ, i64_w, i32_w]
          rfl
        refine take_ (i := 19) (N := some 36) (v := ?_) (a' := ?_) #[true, true, true, true, true, true, true, true, true, true, true, true, true, true, true, true, true, true, true, true, false, false, false, true, true, true, true, false, false, false, false, false, false] rfl rfl (by kernel_rfl) (fun _ _ _ h => h) (Or.inl ⟨by rfl, ?_⟩) hHeld ?_ ?_
        rotate_left
        · rintro w' ⟨s0, s1, s2, s3⟩
          go_simp
          with_reducible rfl
        rotate_left
        · simp only [Act.put, List.setIfInBounds_toArray, List.set_cons_zero, List.set_cons_succ, i64_w, i32_w]
          rfl
        refine pure_ (i := 20) (N := some 37) (v := ?_) (a' := ?_) #[true, true, true, true, true, true, true, true, true, true, true, true, true, true, true, true, true, true, true, true, true, false, false, true, true, true, true, false, false, false, false, false, false] rfl rfl (by kernel_rfl) (fun _ _ _ h => h) (Or.inl ⟨by rfl, ?_⟩) ?_ ?_
        rotate_left
        · intro w'
          go_simp
          with_reducible rfl
        rotate_left
        · simp only [Act.put, List.setIfInBounds_toArray, List.set_cons_zero, List.set_cons_succ, i64_w, i32_w]
          rfl
        refine pure_ (i := 21) (N := some 38) (v := ?_) (a' := ?_) #[true, true, true, true, true, true, true, true, true, true, true, true, true, true, true, true, true, true, true, true, true, true, false, true, true, true, true, false, false, false, false, false, false] rfl rfl (by kernel_rfl) (fun _ _ _ h => h) (Or.inl ⟨by rfl, ?_⟩) ?_ ?_
        rotate_left
        · intro w'
          go_simp
          with_reducible rfl
        rotate_left
        · simp only [Act.put, List.setIfInBounds_toArray, List.set_cons_zero, List.set_cons_succ, i64_w, i32_w]
          rfl
        refine pure_ (i := 22) (N := some 39) (v := ?_) (a' := ?_) #[true, true, true, true, true, true, true, true, true, true, true, true, true, true, true, true, true, true, true, true, true, true, true, true, true, true, true, false, false, false, false, false, false] rfl rfl (by kernel_rfl) (fun _ _ _ h => h) (Or.inl ⟨by rfl, ?_⟩) ?_ ?_
        rotate_left
        · intro w'
          go_simp
          with_reducible rfl
        rotate_left
        · simp only [Act.put, List.setIfInBounds_toArray, List.set_cons_zero, List.set_cons_succ, i64_w, i32_w]
          rfl
        refine take_ (i := 27) (N := some 44) (v := ?_) (a' := ?_) #[true, true, true, true, true, true, true, true, true, true, true, true, true, true, true, true, true, true, true, true, true, true, true, true, true, true, true, true, false, false, false, false, false] rfl rfl (by kernel_rfl) (fun _ _ _ h => h) (Or.inl ⟨by rfl, ?_⟩) hHeld ?_ ?_
        rotate_left
        · rintro w' ⟨s0, s1, s2, s3⟩
          go_simp
          with_reducible rfl
        rotate_left
        · simp only [Act.put, List.setIfInBounds_toArray, List.set_cons_zero, List.set_cons_succ, i64_w, i32_w]
          rfl
        refine pure_ (i := 28) (N := some 45) (v := ?_) (a' := ?_) #[true, true, true, true, true, true, true, true, true, true, true, true, true, true, true, true, true, true, true, true, true, true, true, true, true, true, true, true, true, false, false, false, false] rfl rfl (by kernel_rfl) (fun _ _ _ h => h) (Or.inl ⟨by rfl, ?_⟩) ?_ ?_
        rotate_left
        · intro w'
          go_simp
          with_reducible rfl
        rotate_left
        · simp only [Act.put, List.setIfInBounds_toArray, List.set_cons_zero, List.set_cons_succ, i64_w, i32_w]
          rfl
        refine pure_ (i := 29) (N := some 46) (v := ?_) (a' := ?_) #[true, true, true, true, true, true, true, true, true, true, true, true, true, true, true, true, true, true, true, true, true, true, true, true, true, true, true, true, true, true, false, false, false] rfl rfl (by kernel_rfl) (fun _ _ _ h => h) (Or.inl ⟨by rfl, ?_⟩) ?_ ?_
        rotate_left
        · intro w'
          go_simp
          with_reducible rfl
        rotate_left
        · simp only [Act.put, List.setIfInBounds_toArray, List.set_cons_zero, List.set_cons_succ, i64_w, i32_w]
          rfl
        refine one_ (i := 30) (N := some 47) #[true, true, true, true, true, true, true, true, true, true, true, true, true, true, true, true, true, true, true, true, true, true, true, true, true, true, true, true, true, true, true, false, false] rfl rfl (by kernel_rfl) (by decide) (fun K hK => ?_)
        refine value_ (w1 := ?_) (v := ?_) (by rfl) rfl ?_ ?_
        rotate_left 2
        · go_simp
          constructor
          · rfl
          · rfl
        refine hK.out _ _ ⟨(pw_cell_below (below_alloc (Below.refl _ _) _) hHeld.1), (pw_cell_below (below_alloc (Below.refl _ _) _) hHeld.2.1), (pw_cell_below (below_alloc (Below.refl _ _) _) hHeld.2.2.1), (pw_cell_below (below_alloc (Below.refl _ _) _) hHeld.2.2.2)⟩ (fun hHeld => ?_)
        clear hK K
        refine norm_ (a' := ?_) ?_ ?_
        rotate_left
        · show Act.put _ (some 47) _ = _
          simp only [Act.put, List.setIfInBounds_toArray, List.set_cons_zero, List.set_cons_succ, i64_w, i32_w]
          rfl
        refine last_ (i := 31) (N := some 48) #[true, true, true, true, true, true, true, true, true, true, true, true, true, true, true, true, true, true, true, true, true, true, true, true, true, true, true, true, true, true, true, true, false] rfl rfl (by kernel_rfl) (by decide) (fun K hK => ?_)
        refine Kd.R_append_step (Kd.int .i64) (w0 := W) W.heap.size (by rfl) (.tmp 17) (.tmp 47) 64 3 (.int .i64 0) 8 rfl Try.underlying64 infoI' rfl (by decide) (by decide) v0 (n5 l k) _ _ (fun _ => True) (fun _ => False) rfl rfl rfl (fun _ h => h.elim) (fun _ _ => trivial) (Kd.R_drew HL.out) (below_drew' HB.out) HB.out.size (by rw [n5_len]; omega) ?_
        intro v1 w1 ho1 hb1 hg1 hn1
        refine hK.out _ _ ?_
        clear hK K
        refine norm_ (a' := ?_) ?_ ?_
        rotate_left
        · show Act.put _ (some 48) _ = _
          simp only [Act.put, List.setIfInBounds_toArray, List.set_cons_zero, List.set_cons_succ, i64_w, i32_w]
          rfl
        refine pure_ (i := 32) (N := some 4) (v := ?_) (a' := ?_) #[true, true, true, true, true, true, true, true, true, true, true, true, true, true, true, true, true, true, true, true, true, true, true, true, true, true, true, true, true, true, true, true, true] rfl rfl (by kernel_rfl) (fun _ _ _ h => h) (Or.inl ⟨by rfl, ?_⟩) ?_ ?_
        rotate_left
        · intro w'
          go_simp
          with_reducible rfl
        rotate_left
        · simp only [Act.put, List.setIfInBounds_toArray, List.set_cons_zero, List.set_cons_succ, i64_w, i32_w]
          rfl
        refine done_ (by kernel_rfl) ?_
        have HO1 := Aside0.mk ho1
        have HB1 := Aside0.mk hb1
        clear ho1 hb1 hg1 hn1 j1 j2 j3 k1 k2 k3 q1 q2 q3 r0 r1 r2 m0 m1 m2 e0 e1 e2 e3
        go_wp2
        go_roundw
        case rel => exact ⟨k + 1, v1, by omega, by rw [show 8 + 4 * (k + 1) = p + 4 from by rw [HP.out]; omega]; go_num, rfl, ⟨by rw [HSU.out, ← HAT.out]; exact HO1.out⟩, HB1⟩
        case measure => simp [intOf]; omega
      · obtain rfl : k = 5 := by omega
        obtain ⟨A5, c5, rfl, hc5, hC5⟩ := Kd.R_reads HL.out
        rw [n5_len] at hC5 ⊢
        obtain ⟨ad5, e, d0⟩ := Kd.at_int hC5 ((0 : Nat) : Int) (by omega) (by omega)
        subst e
        obtain ⟨ad1, e, d1⟩ := Kd.at_int hC5 ((1 : Nat) : Int) (by omega) (by omega)
        cases e
        obtain ⟨ad1, e, d2⟩ := Kd.at_int hC5 ((2 : Nat) : Int) (by omega) (by omega)
        cases e
        obtain ⟨ad1, e, d3⟩ := Kd.at_int hC5 ((3 : Nat) : Int) (by omega) (by omega)
        cases e
        obtain ⟨ad1, e, d4⟩ := Kd.at_int hC5 ((4 : Nat) : Int) (by omega) (by omega)
        cases e
        simp only [Int.toNat_natCast] at d0 d1 d2 d3 d4
        rw [show rd (n5 l 5) ((0 : Nat) : Int) = atB l 8 from rfl] at d0
        rw [show rd (n5 l 5) ((1 : Nat) : Int) = atB l 12 from rfl] at d1
        rw [show rd (n5 l 5) ((2 : Nat) : Int) = atB l 16 from rfl] at d2
        rw [show rd (n5 l 5) ((3 : Nat) : Int) = atB l 20 from rfl] at d3
        rw [show rd (n5 l 5) ((4 : Nat) : Int) = atB l 24 from rfl] at d4
        have d0' : wr.cell? (ad5.add 0) = some (.int .i64 (atB l 8)) := d0
        rw [Addr.add_zero'] at d0'
        rw [show (1 : Nat) = 0 + (0 + 1) from rfl, addr_succ] at d1
        rw [show (2 : Nat) = 0 + (1 + 1) from rfl, addr_succ] at d2
        rw [show (3 : Nat) = 0 + (2 + 1) from rfl, addr_succ] at d3
        rw [show (4 : Nat) = 0 + (3 + 1) from rfl, addr_succ] at d4
        simp only [Nat.zero_add] at d1 d2 d3 d4
        clear d0
        have HBR := Aside0.mk HB.out
        go_wp2
        refine start_ (n := 18) (S := fun w' => w'.cell? ad5 = some (.int .i64 (atB l 8)) ∧ w'.cell? ⟨ad5.block, ad5.off + 1, none⟩ = some (.int .i64 (atB l 12)) ∧ w'.cell? ⟨ad5.block, ad5.off + 2, none⟩ = some (.int .i64 (atB l 16)) ∧ w'.cell? ⟨ad5.block, ad5.off + 3, none⟩ = some (.int .i64 (atB l 20)) ∧ w'.cell? ⟨ad5.block, ad5.off + 4, none⟩ = some (.int .i64 (atB l 24))) (ds := [17]) #[false, false, false, false, false, false, false, false, false, false, false, false, false, false, false, false, false, false] (by kernel_rfl) rfl rfl ⟨d0', d1, d2, d3, d4⟩ (fun hHeld => ?_)
        refine pure_ (i := 0) (N := some 49) (v := ?_) (a' := ?_) #[true, false, false, false, false, false, false, false, false, false, false, false, false, false, false, false, false, false] rfl rfl (by kernel_rfl) (fun _ _ _ h => h) (Or.inl ⟨by rfl, ?_⟩) ?_ ?_
        rotate_left
        · intro w'
          go_simp
          with_reducible rfl
        rotate_left
        · simp only [Act.put, List.setIfInBounds_toArray, List.set_cons_zero, List.set_cons_succ, i64_w, i32_w]
          rfl
        refine pure_ (i := 1) (N := some 50) (v := ?_) (a' := ?_) #[true, true, false, false, false, false, false, false, false, false, false, false, false, false, false, false, false, false] rfl rfl (by kernel_rfl) (fun _ _ _ h => h) (Or.inl ⟨by rfl, ?_⟩) ?_ ?_
        rotate_left
        · intro w'
          go_simp
          with_reducible rfl
        rotate_left
        · simp only [Act.put, List.setIfInBounds_toArray, List.set_cons_zero, List.set_cons_succ, i64_w, i32_w]
          rfl
        refine pure_ (i := 3) (N := some 52) (v := ?_) (a' := ?_) #[true, true, false, true, false, false, false, false, false, false, false, false, false, false, false, false, false, false] rfl rfl (by kernel_rfl) (fun _ _ _ h => h) (Or.inl ⟨by rfl, ?_⟩) ?_ ?_
        rotate_left
        · intro w'
          go_simp
          with_reducible rfl
        rotate_left
        · simp only [Act.put, List.setIfInBounds_toArray, List.set_cons_zero, List.set_cons_succ, i64_w, i32_w]
          rfl
        refine pure_ (i := 4) (N := some 53) (v := ?_) (a' := ?_) #[true, true, false, true, true, false, false, false, false, false, false, false, false, false, false, false, false, false] rfl rfl (by kernel_rfl) (fun _ _ _ h => h) (Or.inl ⟨by rfl, ?_⟩) ?_ ?_
        rotate_left
        · intro w'
          go_simp
          with_reducible rfl
        rotate_left
        · simp only [Act.put, List.setIfInBounds_toArray, List.set_cons_zero, List.set_cons_succ, i64_w, i32_w]
          rfl
        refine pure_ (i := 6) (N := some 55) (v := ?_) (a' := ?_) #[true, true, false, true, true, false, true, false, false, false, false, false, false, false, false, false, false, false] rfl rfl (by kernel_rfl) (fun _ _ _ h => h) (Or.inl ⟨by rfl, ?_⟩) ?_ ?_
        rotate_left
        · intro w'
          go_simp
          with_reducible rfl
        rotate_left
        · simp only [Act.put, List.setIfInBounds_toArray, List.set_cons_zero, List.set_cons_succ, i64_w, i32_w]
          rfl
        refine pure_ (i := 7) (N := some 56) (v := ?_) (a' := ?_) #[true, true, false, true, true, false, true, true, false, false, false, false, false, false, false, false, false, false] rfl rfl (by kernel_rfl) (fun _ _ _ h => h) (Or.inl ⟨by rfl, ?_⟩) ?_ ?_
        rotate_left
        · intro w'
          go_simp
          with_reducible rfl
        rotate_left
        · simp only [Act.put, List.setIfInBounds_toArray, List.set_cons_zero, List.set_cons_succ, i64_w, i32_w]
          rfl
        refine pure_ (i := 9) (N := some 58) (v := ?_) (a' := ?_) #[true, true, false, true, true, false, true, true, false, true, false, false, false, false, false, false, false, false] rfl rfl (by kernel_rfl) (fun _ _ _ h => h) (Or.inl ⟨by rfl, ?_⟩) ?_ ?_
        rotate_left
        · intro w'
          go_simp
          with_reducible rfl
        rotate_left
        · simp only [Act.put, List.setIfInBounds_toArray, List.set_cons_zero, List.set_cons_succ, i64_w, i32_w]
          rfl
        refine pure_ (i := 10) (N := some 59) (v := ?_) (a' := ?_) #[true, true, false, true, true, false, true, true, false, true, true, false, false, false, false, false, false, false] rfl rfl (by kernel_rfl) (fun _ _ _ h => h) (Or.inl ⟨by rfl, ?_⟩) ?_ ?_
        rotate_left
        · intro w'
          go_simp
          with_reducible rfl
        rotate_left
        · simp only [Act.put, List.setIfInBounds_toArray, List.set_cons_zero, List.set_cons_succ, i64_w, i32_w]
          rfl
        refine pure_ (i := 12) (N := some 61) (v := ?_) (a' := ?_) #[true, true, false, true, true, false, true, true, false, true, true, false, true, false, false, false, false, false] rfl rfl (by kernel_rfl) (fun _ _ _ h => h) (Or.inl ⟨by rfl, ?_⟩) ?_ ?_
        rotate_left
        · intro w'
          go_simp
          with_reducible rfl
        rotate_left
        · simp only [Act.put, List.setIfInBounds_toArray, List.set_cons_zero, List.set_cons_succ, i64_w, i32_w]
          rfl
        refine pure_ (i := 13) (N := some 62) (v := ?_) (a' := ?_) #[true, true, false, true, true, false, true, true, false, true, true, false, true, true, false, false, false, false] rfl rfl (by kernel_rfl) (fun _ _ _ h => h) (Or.inl ⟨by rfl, ?_⟩) ?_ ?_
        rotate_left
        · intro w'
          go_simp
          with_reducible rfl
        rotate_left
        · simp only [Act.put, List.setIfInBounds_toArray, List.set_cons_zero, List.set_cons_succ, i64_w, i32_w]
          rfl
        refine take_ (i := 2) (N := some 51) (v := ?_) (a' := ?_) #[true, true, true, true, true, false, true, true, false, true, true, false, true, true, false, false, false, false] rfl rfl (by kernel_rfl) (fun _ _ _ h => h) (Or.inl ⟨by rfl, ?_⟩) hHeld ?_ ?_
        rotate_left
        · rintro w' ⟨s0, s1, s2, s3, s4⟩
          go_simp
          with_reducible rfl
        rotate_left
        · simp only [Act.put, List.setIfInBounds_toArray, List.set_cons_zero, List.set_cons_succ, i64_w, i32_w]
          rfl
        refine take_ (i := 5) (N := some 54) (v := ?_) (a' := ?_) #[true, true, true, true, true, true, true, true, false, true, true, false, true, true, false, false, false, false] rfl rfl (by kernel_rfl) (fun _ _ _ h => h) (Or.inl ⟨by rfl, ?_⟩) hHeld ?_ ?_
        rotate_left
        · rintro w' ⟨s0, s1, s2, s3, s4⟩
          go_simp
          with_reducible rfl
        rotate_left
        · simp only [Act.put, List.setIfInBounds_toArray, List.set_cons_zero, List.set_cons_succ, i64_w, i32_w]
          rfl
        refine take_ (i := 8) (N := some 57) (v := ?_) (a' := ?_) #[true, true, true, true, true, true, true, true, true, true, true, false, true, true, false, false, false, false] rfl rfl (by kernel_rfl) (fun _ _ _ h => h) (Or.inl ⟨by rfl, ?_⟩) hHeld ?_ ?_
        rotate_left
        · rintro w' ⟨s0, s1, s2, s3, s4⟩
          go_simp
          with_reducible rfl
        rotate_left
        · simp only [Act.put, List.setIfInBounds_toArray, List.set_cons_zero, List.set_cons_succ, i64_w, i32_w]
          rfl
        refine take_ (i := 11) (N := some 60) (v := ?_) (a' := ?_) #[true, true, true, true, true, true, true, true, true, true, true, true, true, true, false, false, false, false] rfl rfl (by kernel_rfl) (fun _ _ _ h => h) (Or.inl ⟨by rfl, ?_⟩) hHeld ?_ ?_
        rotate_left
        · rintro w' ⟨s0, s1, s2, s3, s4⟩
          go_simp
          with_reducible rfl
        rotate_left
        · simp only [Act.put, List.setIfInBounds_toArray, List.set_cons_zero, List.set_cons_succ, i64_w, i32_w]
          rfl
        refine take_ (i := 14) (N := some 63) (v := ?_) (a' := ?_) #[true, true, true, true, true, true, true, true, true, true, true, true, true, true, true, false, false, false] rfl rfl (by kernel_rfl) (fun _ _ _ h => h) (Or.inl ⟨by rfl, ?_⟩) hHeld ?_ ?_
        rotate_left
        · rintro w' ⟨s0, s1, s2, s3, s4⟩
          go_simp
          with_reducible rfl
        rotate_left
        · simp only [Act.put, List.setIfInBounds_toArray, List.set_cons_zero, List.set_cons_succ, i64_w, i32_w]
          rfl
        refine pure_ (i := 15) (N := some 64) (v := ?_) (a' := ?_) #[true, true, true, true, true, true, true, true, true, true, true, true, true, true, true, true, false, false] rfl rfl (by kernel_rfl) (fun _ _ _ h => h) (Or.inl ⟨by rfl, ?_⟩) ?_ ?_
        rotate_left
        · intro w'
          go_simp
          with_reducible rfl
        rotate_left
        · simp only [Act.put, List.setIfInBounds_toArray, List.set_cons_zero, List.set_cons_succ, i64_w, i32_w]
          rfl
        refine one_ (i := 16) (N := some 6) #[true, true, true, true, true, true, true, true, true, true, true, true, true, true, true, true, true, false] rfl rfl (by kernel_rfl) (by decide) (fun K hK => ?_)
        refine value_ (w1 := ?_) (v := ?_) (by rfl) rfl ?_ ?_
        rotate_left 2
        · go_simp
          constructor
          · rfl
          · rfl
        refine hK.out _ _ ⟨(pw_cell_below (below_alloc (Below.refl _ _) _) hHeld.1), (pw_cell_below (below_alloc (Below.refl _ _) _) hHeld.2.1), (pw_cell_below (below_alloc (Below.refl _ _) _) hHeld.2.2.1), (pw_cell_below (below_alloc (Below.refl _ _) _) hHeld.2.2.2.1), (pw_cell_below (below_alloc (Below.refl _ _) _) hHeld.2.2.2.2)⟩ (fun hHeld => ?_)
        clear hK K
        refine norm_ (a' := ?_) ?_ ?_
        rotate_left
        · show Act.put _ (some 6) _ = _
          simp only [Act.put, List.setIfInBounds_toArray, List.set_cons_zero, List.set_cons_succ, i64_w, i32_w]
          rfl
        refine last_ (i := 17) (N := none) #[true, true, true, true, true, true, true, true, true, true, true, true, true, true, true, true, true, true] rfl rfl (by kernel_rfl) (by decide) (fun K hK => ?_)
        refine skip_ (w1 := ?_) (by rfl) rfl ?_ ?_
        rotate_left
        · go_simp
          rfl
        refine hK.out _ _ ?_
        clear hK K
        refine done_ (by kernel_rfl) ?_
        obtain ⟨W9, hW⟩ : ∃ W9, W9 = (wr.alloc (.cells #[.int .i64 (atB l 8), .int .i64 (atB l 12), .int .i64 (atB l 16), .int .i64 (atB l 20), .int .i64 (atB l 24)] 71)).drew := ⟨_, rfl⟩
        rw [← hW]
        have hz : W9.heap[w.heap.size]? = some (.cells #[.int .i64 0, .int .i64 0, .int .i64 0, .int .i64 0, .int .i64 0] 71 (0, 0)) := by
          have h1 := (HB.out.block w.heap.size (by omega)).trans HZ.out
          rw [hW]
          exact (Below.heap_alloc _ _ _ (blk_lt h1)).trans h1
        obtain ⟨gx, hgx⟩ : ∃ gx, gx = wr.heap.size := ⟨_, rfl⟩
        rw [← hgx]
        have hx : W9.heap[gx]? = some (.cells #[.int .i64 (atB l 8), .int .i64 (atB l 12), .int .i64 (atB l 16), .int .i64 (atB l 20), .int .i64 (atB l 24)] 71 (0, 0)) := by rw [hW, hgx]; exact heap_alloc_new wr _
        have hbW : Below w.heap.size w W9 := by rw [hW]; exact below_drew' (below_alloc (below_step HBZ.out HB.out) _)
        have hs : w.heap.size + 2 ≤ W9.heap.size := by
          have h1 := HB.out.size
          rw [hW]
          show _ ≤ (wr.alloc _).heap.size
          simp
          omega
        clear hW hgx HRW HB HBR HL hC5 d0' d1 d2 d3 d4
        have y0 := blk_cell hx 0
        have y1 := blk_cell hx 1
        have y2 := blk_cell hx 2
        have y3 := blk_cell hx 3
        have y4 := blk_cell hx 4
        go_wp2_with fail
        clear y0 y1 y2 y3 y4
        refine (rpack_calls (supOf l) _).mono ?_
        rintro e w2 ⟨v2, rfl, ho2, hb2⟩
        have hs2 := hb2.size
        have hz2 := (hb2.block w.heap.size (by omega)).trans hz
        have hx2 := hb2.block gx (blk_lt hx) |>.trans hx
        have HB2 := Aside0.mk (show Below w.heap.size w w2 from below_step hbW hb2)
        have HR2 := Aside0.mk (Kd.C_below HR.out HB2.out)
        have z0 := blk_cell hz2 0
        have z1 := blk_cell hz2 1
        have z2 := blk_cell hz2 2
        have z3 := blk_cell hz2 3
        have z4 := blk_cell hz2 4
        have HZ2 := Aside0.mk hz2
        have f0 := blk_frozen hz2 0
        have f1 := blk_frozen hz2 1
        have f2 := blk_frozen hz2 2
        have f3 := blk_frozen hz2 3
        have f4 := blk_frozen hz2 4
        have x0 := blk_cell hx2 0
        have x1 := blk_cell hx2 1
        have x2 := blk_cell hx2 2
        have x3 := blk_cell hx2 3
        have x4 := blk_cell hx2 4
        obtain ⟨A2, c2, rfl, hc2, hC2⟩ := OB_reads ho2
        have HC2 := Aside0.mk hC2
        have HP := Aside0.mk (fun (h : (supOf l).may = true) => pack_ok (s := supOf l) h)
        have hg1 : w.heap.size < w2.heap.size := by omega
        clear hbW hz hx hs hb2 ho2 hC2 hs2 hz2 hx2
        generalize hm : (supOf l).may = m at *
        generalize (supOf l).pack = pk at *
        have HM := Aside0.mk hm
        clear hm
        cases m
        · go_wp2
          obtain ⟨W3, hW3⟩ : ∃ W3, W3 = (((((w2.setCell ⟨w.heap.size, 0, none⟩ (.int .i64 0)).setCell ⟨w.heap.size, 1, none⟩ (.int .i64 0)).setCell ⟨w.heap.size, 2, none⟩ (.int .i64 0)).setCell ⟨w.heap.size, 3, none⟩ (.int .i64 0)).setCell ⟨w.heap.size, 4, none⟩ (.int .i64 0)) := ⟨_, rfl⟩
          rw [← hW3]
          have h5 := blk_set5 HZ2.out (.int .i64 0) (.int .i64 0) (.int .i64 0) (.int .i64 0) (.int .i64 0)
          rw [← hW3] at h5
          have HB5 := Aside0.mk (below_set5 HB2.out (Nat.le_refl _) (.int .i64 0) (.int .i64 0) (.int .i64 0) (.int .i64 0) (.int .i64 0))
          rw [← hW3] at HB5
          clear hW3
          have e0 := blk_cell h5 0
          have e1 := blk_cell h5 1
          have e2 := blk_cell h5 2
          have e3 := blk_cell h5 3
          have e4 := blk_cell h5 4
          refine bodyPost_ret (v := .tuple #[.agg #[.int .i64 0, .int .i64 0, .int .i64 0, .int .i64 0, .int .i64 0], .bool false]) (by simp [results, Try.results32, go_sem, e0, e1, e2, e3, e4]) rfl ⟨?_, HB5.out⟩
          have hi : isSup l = false := by rw [HI.out]; rfl
          rw [HU.out, hi]
          rfl
        · have HPK := Aside0.mk (HP.out rfl)
          have hpy : Byt pk := by rw [HPK.out]; exact packed_byt _
          have hcv3 := Kd.C_string (P := Try.prog) (c := c2) Try.underlying24 Try.underlying5 Try.underlying9 HC2.out
          have hcv4 := Kd.C_string (P := Try.prog) (c := c) Try.underlying24 Try.underlying5 Try.underlying9 HR2.out
          have hne : ((strOfNums pk).toList != (strOfNums l).toList) = !decide (pk = l) := by rw [bne, strOfNums_inj hpy HY.out]
          have heq := strOfNums_inj hpy HY.out
          clear hpy
          generalize hq : decide (pk = l) = q at hne heq ⊢
          have HQ := Aside0.mk hq
          clear hq
          cases q
          · rw [Bool.not_false] at hne
            go_wp2
            obtain ⟨W3, hW3⟩ : ∃ W3, W3 = (((((w2.setCell ⟨w.heap.size, 0, none⟩ (.int .i64 0)).setCell ⟨w.heap.size, 1, none⟩ (.int .i64 0)).setCell ⟨w.heap.size, 2, none⟩ (.int .i64 0)).setCell ⟨w.heap.size, 3, none⟩ (.int .i64 0)).setCell ⟨w.heap.size, 4, none⟩ (.int .i64 0)) := ⟨_, rfl⟩
            rw [← hW3]
            have h5 := blk_set5 HZ2.out (.int .i64 0) (.int .i64 0) (.int .i64 0) (.int .i64 0) (.int .i64 0)
            rw [← hW3] at h5
            have HB5 := Aside0.mk (below_set5 HB2.out (Nat.le_refl _) (.int .i64 0) (.int .i64 0) (.int .i64 0) (.int .i64 0) (.int .i64 0))
            rw [← hW3] at HB5
            clear hW3
            have e0 := blk_cell h5 0
            have e1 := blk_cell h5 1
            have e2 := blk_cell h5 2
            have e3 := blk_cell h5 3
            have e4 := blk_cell h5 4
            refine bodyPost_ret (v := .tuple #[.agg #[.int .i64 0, .int .i64 0, .int .i64 0, .int .i64 0, .int .i64 0], .bool false]) (by simp [results, Try.results32, go_sem, e0, e1, e2, e3, e4]) rfl ⟨?_, HB5.out⟩
            have hi : isSup l = false := by rw [HI.out, ← HPK.out]; exact HQ.out
            rw [HU.out, hi]
            rfl
          · rw [Bool.not_true] at hne
            go_wp2
            obtain ⟨W3, hW3⟩ : ∃ W3, W3 = (((((w2.setCell ⟨w.heap.size, 0, none⟩ (.int .i64 (atB l 8))).setCell ⟨w.heap.size, 1, none⟩ (.int .i64 (atB l 12))).setCell ⟨w.heap.size, 2, none⟩ (.int .i64 (atB l 16))).setCell ⟨w.heap.size, 3, none⟩ (.int .i64 (atB l 20))).setCell ⟨w.heap.size, 4, none⟩ (.int .i64 (atB l 24))) := ⟨_, rfl⟩
            rw [← hW3]
            have h5 := blk_set5 HZ2.out (.int .i64 (atB l 8)) (.int .i64 (atB l 12)) (.int .i64 (atB l 16)) (.int .i64 (atB l 20)) (.int .i64 (atB l 24))
            rw [← hW3] at h5
            have HB5 := Aside0.mk (below_set5 HB2.out (Nat.le_refl _) (.int .i64 (atB l 8)) (.int .i64 (atB l 12)) (.int .i64 (atB l 16)) (.int .i64 (atB l 20)) (.int .i64 (atB l 24)))
            rw [← hW3] at HB5
            clear hW3
            have e0 := blk_cell h5 0
            have e1 := blk_cell h5 1
            have e2 := blk_cell h5 2
            have e3 := blk_cell h5 3
            have e4 := blk_cell h5 4
            refine bodyPost_ret (v := .tuple #[.agg #[.int .i64 (atB l 8), .int .i64 (atB l 12), .int .i64 (atB l 16), .int .i64 (atB l 20), .int .i64 (atB l 24)], .bool true]) (by simp [results, Try.results32, go_sem, e0, e1, e2, e3, e4]) rfl ⟨?_, HB5.out⟩
            have hi : isSup l = true := by rw [HI.out, ← HPK.out]; exact HQ.out
            rw [HU.out, hi]
            rfl
  · have t1 : decide ((l.length : Int) = 64) = false := by simp; omega
    have t2 : ((l.length : Int) != 64) = true := by simp; omega
    have HI := Aside0.mk (isSup_len l h64)
    have hz := heap_alloc_new w (.cells #[.int .i64 0, .int .i64 0, .int .i64 0, .int .i64 0, .int .i64 0] 71)
    have HZ2 := Aside0.mk hz
    have HB2 := Aside0.mk (below_alloc (Below.refl _ w) (.cells #[.int .i64 0, .int .i64 0, .int .i64 0, .int .i64 0, .int .i64 0] 71))
    clear hr hb hz h64
    go_enter Try.func32, Try.ntmps32
    go_wp2
    have e0 := blk_cell HZ2.out 0
    have e1 := blk_cell HZ2.out 1
    have e2 := blk_cell HZ2.out 2
    have e3 := blk_cell HZ2.out 3
    have e4 := blk_cell HZ2.out 4
    refine bodyPost_ret (v := .tuple #[.agg #[.int .i64 0, .int .i64 0, .int .i64 0, .int .i64 0, .int .i64 0], .bool false]) (by simp [results, Try.results32, go_sem, e0, e1, e2, e3, e4]) rfl ⟨?_, HB2.out⟩
    unfold unSup
    rw [HI.out]
    rfl
end Go.Proofs.Ytodhgohbcjnjfaa
