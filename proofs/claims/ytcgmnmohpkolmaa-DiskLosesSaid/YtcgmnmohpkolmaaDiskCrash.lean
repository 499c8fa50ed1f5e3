/- Disk's Crash: some of what was written is lost, and the first of that torn. -/
import Derived.Test.YtcgmnmohpkolmaaDiskPend
namespace Go.Proofs.Ytcgmnmohpkolmaa
open Go.RowKit Go.Proofs.YtcgmnmohpkolmaaW.PrintWords Go.Proofs.YtcgmnmohpkolmaaW.PrintLast Go.Proofs.YtcgmnmohpkolmaaW.PrintMore
set_option linter.unusedVariables false
set_option linter.unusedSimpArgs false
theorem RI_but {S : Nat → Prop} {kk : IntKind} {w w1 : World} {A : Option Addr} {n : Nat} {l : List Int} (h : Kd.C (Kd.int kk) w A n l) (hb : But S w w1) (hA : ∀ ad, A = some ad → ¬ S ad.block) : Kd.C (Kd.int kk) w1 A n l := by
  refine ⟨h.1, h.2.1, fun hp => ?_⟩
  obtain ⟨ad, e, hc⟩ := h.2.2 hp
  refine ⟨ad, e, fun j p hj => ?_⟩
  obtain ⟨cs, h1', h2', h3'⟩ := hc j p hj
  refine ⟨cs, h1', h2', fun q u hu => ?_⟩
  have hcell := h3' q u hu
  have hlt := World.block_lt_of_cell? w _ hcell
  rw [add_blk] at hlt
  exact (World.cell?_of_block (by rw [add_blk]; exact hb.block _ hlt (hA ad e))).trans hcell
theorem Dsk.secO {w : World} {a : DA} {N : Nat} {s : DS} (h : Dsk w a N s) (i : Nat) (hi : i < N) (t : Nat) (ht : t ≤ 64) : RB w (some ⟨a.o, i * 64 + t, none⟩) (64 - t) ((s.old.getD i []).drop t) := by
  have hs := h.ok.old.at_ i hi
  refine ⟨by rw [List.length_drop, hs.1], by omega, fun _ => ⟨_, rfl, fun j p hj => ⟨[.int .u8 p], rfl, rfl, fun q u hu => ?_⟩⟩⟩
  cases q with
  | succ q => simp at hu
  | zero =>
    simp at hu
    subst hu
    rw [List.getElem?_drop] at hj
    have hj64 : t + j < 64 := by
      have := (List.getElem?_eq_some_iff.1 hj).1
      omega
    have := flat_at h.ok.old i hi (t + j) hj64
    rw [hj] at this
    have e : (⟨a.o, i * 64 + t, none⟩ : Addr).add (j * (Kd.int .u8).sz + 0) = ⟨a.o, i * 64 + (t + j), none⟩ := by
      rw [show j * (Kd.int .u8).sz + 0 = j from Nat.mul_one j, ← add_plain a.o (i * 64 + t), add_add, add_plain, Nat.add_assoc]
    have hfl := flat_length h.ok.old
    rw [e, blk_cell h.ho, List.getElem?_toArray, List.getElem?_append_left (by rw [nums_length, hfl]; omega)]
    unfold nums
    rw [List.getElem?_map, this]
    rfl
/-- What torn comes to. -/
def clamp (t : Int) : Nat := (min (max 0 t) 64).toNat
/-- Does it stay, by the digits of a number? -/
def keptAt (keep : Int) (k : Nat) : Bool := (bits .and .i64 (keep / 2 ^ (k % 62)) 1 == 1)
/-- A sector that is lost, but for what is torn off it. -/
def lost (old now : List (List Int)) (i t : Nat) : List (List Int) := now.set i ((now.getD i []).take t ++ (old.getD i []).drop t)
def lose (old : List (List Int)) (keep : Int) : Nat → Nat → List Int → List (List Int) → List (List Int)
  | _, _, [], now => now
  | k, t, i :: l, now => if keptAt keep k = true then lose old keep (k + 1) t l now else lose old keep (k + 1) 0 l (lost old now i.toNat t)
theorem lose_step (old : List (List Int)) (keep : Int) (k t : Nat) (P : List Int) (now : List (List Int)) (hk : k < P.length) :
    lose old keep k t (P.drop k) now = if keptAt keep k = true then lose old keep (k + 1) t (P.drop (k + 1)) now else lose old keep (k + 1) 0 (P.drop (k + 1)) (lost old now (rd P k).toNat t) := by
  rw [List.drop_eq_getElem_cons hk]
  simp only [lose, rd, List.getD, Int.toNat_natCast, List.getElem?_eq_getElem hk, Option.getD_some]
theorem lost_all {old now : List (List Int)} {n : Nat} (hn : Secs n now) (ho : Secs n old) (i : Nat) (hi : i < n) : lost old now i 64 = now := by
  unfold lost
  rw [List.take_of_length_le (by rw [(hn.at_ i hi).1]; omega), List.drop_eq_nil_of_le (by rw [(ho.at_ i hi).1]; omega), List.append_nil]
  have hl : i < now.length := by rw [hn.1]; exact hi
  apply List.ext_getElem?
  intro j
  by_cases h : j = i
  · subst h
    rw [List.getElem?_set_self hl]
    simp [List.getD, hl]
  · rw [List.getElem?_set_ne (by omega)]
/-- What a crash leaves. -/
def DS.crash (s : DS) (keep torn : Int) : DS :=
  { now := lose s.old keep 0 (clamp torn) s.pending s.now, old := lose s.old keep 0 (clamp torn) s.pending s.now, pend := List.replicate s.pend.length false, dead := false, lit := false, left := 0 }
set_option maxRecDepth 100000
set_option maxHeartbeats 4000000 in
theorem crash_calls (a : DA) (N : Nat) (s : DS) (keep torn : Int) (w : World) (h : Dsk w a N s) (hN : 0 < N) :
    Calls Try.prog 29 #[.pointer (some ⟨a.d, 0, none⟩), .int .i64 keep, .int .i64 torn] w fun e w' => e = .returned (.tuple #[]) ∧ ∃ w1, Below w.heap.size w w1 ∧ But a.has w1 w' ∧ Dsk w' a N (s.crash keep torn) := by
  have H := Aside0.mk h
  clear h
  go_enter Try.func29, Try.ntmps29
  go_upto_region 0 with (fail)
  go_cut [2] (fun s2 wx => s2 = .int .i64 (clamp torn : Nat) ∧ w = wx)
  case first =>
    go_wp2_with fail
    all_goals
      go_meet
      refine ⟨?_, rfl⟩
      congr 1
      unfold clamp
      omega
  obtain ⟨rfl, rfl⟩ := hcut
  have ht64 : clamp torn ≤ 64 := by unfold clamp; omega
  have HF0 := Aside0.mk (show s.crash keep torn = { now := lose s.old keep 0 (clamp torn) s.pending s.now, old := lose s.old keep 0 (clamp torn) s.pending s.now, pend := List.replicate s.pend.length false, dead := false, lit := false, left := 0 } from rfl)
  generalize clamp torn = t at *
  obtain ⟨F, hF⟩ : ∃ F, F = lose s.old keep 0 t s.pending s.now := ⟨_, rfl⟩
  rw [← hF] at HF0
  have HF := Aside0.mk hF.symm
  clear hF
  go_wp2_with fail
  refine (pending_calls a N s _ H.out).mono ?_
  rintro e w1 ⟨v1, rfl, ho1, hb1⟩
  obtain ⟨A1, c1, rfl, hc1, hC1⟩ := Kd.R_reads ho1
  have HA1 := Aside0.mk (show ∀ ad, A1 = some ad → ¬ a.has ad.block ∨ s.pending.length = 0 from fun ad e => by
    rcases Nat.eq_zero_or_pos s.pending.length with h0 | h0
    · exact .inr h0
    · left
      obtain ⟨g, cap, e1, hg, _⟩ := Kd.R_form ho1 h0
      injection e1 with e1 e2 e3
      rw [e] at e1
      cases e1
      intro hh
      have := H.out.lt g hh
      omega)
  have H1 := Aside0.mk (H.out.after hb1)
  have HB1 := Aside0.mk hb1
  have HC1 := Aside0.mk hC1
  have HPB := Aside0.mk (show ∀ k : Nat, k < s.pending.length → 0 ≤ rd s.pending k ∧ rd s.pending k < (N : Int) from fun k hk => by
    have := trues_bd s.pend 0 _ (rd_mem s.pending k hk)
    rw [Nat.zero_add, H.out.ok.pend] at this
    exact ⟨by omega, this.2⟩)
  have hpl : s.pending.length ≤ 1024 := by
    have h1 := trues_len s.pend 0
    have h2 := H.out.ok.pend
    have h3 := H.out.ok.small
    show (trues 0 s.pend).length ≤ 1024
    omega
  clear ho1 hb1 hC1
  obtain ⟨M, hM⟩ : ∃ M : Nat, M = s.pending.length := ⟨_, rfl⟩
  rw [← hM] at hpl hc1 HC1 ⊢
  have HM := Aside0.mk hM
  clear hM
  go_wp2
  go_loopw [2, 14] (fun t' i wr => ∃ (k t1 : Nat) (now1 : List (List Int)), k ≤ M ∧ t1 ≤ 64 ∧ i = .int .i64 k ∧ t' = .int .i64 t1 ∧ Aside0 (Dsk wr a N { s with now := now1 }) ∧ Aside0 (But a.has w1 wr) ∧ Aside0 (lose s.old keep k t1 (s.pending.drop k) now1 = F)) (fun _ i _ => M - (intOf i).toNat)
  case atStart => exact ⟨0, t, s.now, by omega, by omega, rfl, rfl, H1, ⟨But.refl _ _⟩, HF⟩
  case round =>
    obtain ⟨k, t1, now1, hk, ht1, rfl, rfl, HD, HB, HL⟩ := hrel
    by_cases hlt : k < M
    · have hA2 : ∀ ad, A1 = some ad → ¬ a.has ad.block := fun ad e => (HA1.out ad e).resolve_right (by rw [← HM.out]; omega)
      obtain ⟨x, e, hx⟩ := Kd.at_int (RI_but HC1.out HB.out hA2) (k : Int) (by omega) (by omega)
      cases e
      simp only [Int.toNat_natCast] at hx
      have hp := HPB.out k (by rw [← HM.out]; exact hlt)
      have j0 : (0 : Int) ≤ (k : Int) := by omega
      have j1 : (k : Int) < (M : Int) := by omega
      obtain ⟨q, hq⟩ := Int.eq_ofNat_of_zero_le hp.1
      rw [hq] at hx hp
      have HQ := Aside0.mk hq
      clear hq hA2
      have HST := Aside0.mk (lose_step s.old keep k t1 s.pending now1 (by rw [← HM.out]; exact hlt))
      rw [HL.out, HQ.out, Int.toNat_natCast] at HST
      have hqN : q < N := by omega
      cases hkp : keptAt keep k
      · rw [hkp] at HST
        simp only [Bool.false_eq_true, if_false] at HST
        have hkp' : (bits .and .i64 (keep / 2 ^ (k % 62)) 1 == 1) = false := hkp
        have h0 := HD.out.c0
        have h1 := HD.out.c1
        have j2 : (0 : Int) ≤ (q : Int) := by omega
        have j3 : (q : Int) < (N : Int) := by omega
        clear hkp hp
        by_cases h64 : t1 = 64
        · subst h64
          have hcp := fun ty (d1 d2 : Option Addr) (c1 c2 : Nat) => run_copy_none (P := Try.prog) wr.drew 22 22 ty 5 d1 d2 0 c1 0 c2 Try.underlying22 cellsT_b rfl
          have HLA := Aside0.mk (lost_all HD.out.ok.now HD.out.ok.old q hqN)
          rw [HLA.out] at HST
          go_wp2
          refine start_ (n := 17) (S := fun w' => w'.cell? ⟨a.d, 0, none⟩ = some (.slice (some ⟨a.n, 0, none⟩) N a.cn) ∧ w'.cell? ⟨a.d, 1, none⟩ = some (.slice (some ⟨a.o, 0, none⟩) N a.co)) (ds := [16]) #[false, false, false, false, false, false, false, false, false, false, false, false, false, false, false, false, false] (by kernel_rfl) rfl rfl ⟨h0, h1⟩ (fun hHeld => ?_)
          refine pure_ (i := 0) (N := some 25) (v := ?_) (a' := ?_) #[true, false, false, false, false, false, false, false, false, false, false, false, false, false, false, false, false] rfl rfl (by kernel_rfl) (fun _ _ _ h => h) (Or.inl ⟨by rfl, ?_⟩) ?_ ?_
          rotate_left
          · intro w'
            go_simp
            with_reducible rfl
          rotate_left
          · simp only [Act.put, List.setIfInBounds_toArray, List.set_cons_zero, List.set_cons_succ, i64_w, i32_w]
            rfl
          refine pure_ (i := 1) (N := some 26) (v := ?_) (a' := ?_) #[true, true, false, false, false, false, false, false, false, false, false, false, false, false, false, false, false] rfl rfl (by kernel_rfl) (fun _ _ _ h => h) (Or.inl ⟨by rfl, ?_⟩) ?_ ?_
          rotate_left
          · intro w'
            go_simp
            with_reducible rfl
          rotate_left
          · simp only [Act.put, List.setIfInBounds_toArray, List.set_cons_zero, List.set_cons_succ, i64_w, i32_w]
            rfl
          refine pure_ (i := 2) (N := some 27) (v := ?_) (a' := ?_) #[true, true, true, false, false, false, false, false, false, false, false, false, false, false, false, false, false] rfl rfl (by kernel_rfl) (fun _ _ _ h => h) (Or.inl ⟨by rfl, ?_⟩) ?_ ?_
          rotate_left
          · intro w'
            go_simp
            with_reducible rfl
          rotate_left
          · simp only [Act.put, List.setIfInBounds_toArray, List.set_cons_zero, List.set_cons_succ, i64_w, i32_w]
            rfl
          refine pure_ (i := 4) (N := some 29) (v := ?_) (a' := ?_) #[true, true, true, false, true, false, false, false, false, false, false, false, false, false, false, false, false] rfl rfl (by kernel_rfl) (fun _ _ _ h => h) (Or.inl ⟨by rfl, ?_⟩) ?_ ?_
          rotate_left
          · intro w'
            go_simp
            with_reducible rfl
          rotate_left
          · simp only [Act.put, List.setIfInBounds_toArray, List.set_cons_zero, List.set_cons_succ, i64_w, i32_w]
            rfl
          refine pure_ (i := 6) (N := some 31) (v := ?_) (a' := ?_) #[true, true, true, false, true, false, true, false, false, false, false, false, false, false, false, false, false] rfl rfl (by kernel_rfl) (fun _ _ _ h => h) (Or.inl ⟨by rfl, ?_⟩) ?_ ?_
          rotate_left
          · intro w'
            go_simp
            with_reducible rfl
          rotate_left
          · simp only [Act.put, List.setIfInBounds_toArray, List.set_cons_zero, List.set_cons_succ, i64_w, i32_w]
            rfl
          refine pure_ (i := 8) (N := some 33) (v := ?_) (a' := ?_) #[true, true, true, false, true, false, true, false, true, false, false, false, false, false, false, false, false] rfl rfl (by kernel_rfl) (fun _ _ _ h => h) (Or.inl ⟨by rfl, ?_⟩) ?_ ?_
          rotate_left
          · intro w'
            go_simp
            with_reducible rfl
          rotate_left
          · simp only [Act.put, List.setIfInBounds_toArray, List.set_cons_zero, List.set_cons_succ, i64_w, i32_w]
            rfl
          refine pure_ (i := 9) (N := some 34) (v := ?_) (a' := ?_) #[true, true, true, false, true, false, true, false, true, true, false, false, false, false, false, false, false] rfl rfl (by kernel_rfl) (fun _ _ _ h => h) (Or.inl ⟨by rfl, ?_⟩) ?_ ?_
          rotate_left
          · intro w'
            go_simp
            with_reducible rfl
          rotate_left
          · simp only [Act.put, List.setIfInBounds_toArray, List.set_cons_zero, List.set_cons_succ, i64_w, i32_w]
            rfl
          refine pure_ (i := 10) (N := some 35) (v := ?_) (a' := ?_) #[true, true, true, false, true, false, true, false, true, true, true, false, false, false, false, false, false] rfl rfl (by kernel_rfl) (fun _ _ _ h => h) (Or.inl ⟨by rfl, ?_⟩) ?_ ?_
          rotate_left
          · intro w'
            go_simp
            with_reducible rfl
          rotate_left
          · simp only [Act.put, List.setIfInBounds_toArray, List.set_cons_zero, List.set_cons_succ, i64_w, i32_w]
            rfl
          refine pure_ (i := 12) (N := some 37) (v := ?_) (a' := ?_) #[true, true, true, false, true, false, true, false, true, true, true, false, true, false, false, false, false] rfl rfl (by kernel_rfl) (fun _ _ _ h => h) (Or.inl ⟨by rfl, ?_⟩) ?_ ?_
          rotate_left
          · intro w'
            go_simp
            with_reducible rfl
          rotate_left
          · simp only [Act.put, List.setIfInBounds_toArray, List.set_cons_zero, List.set_cons_succ, i64_w, i32_w]
            rfl
          refine pure_ (i := 14) (N := some 39) (v := ?_) (a' := ?_) #[true, true, true, false, true, false, true, false, true, true, true, false, true, false, true, false, false] rfl rfl (by kernel_rfl) (fun _ _ _ h => h) (Or.inl ⟨by rfl, ?_⟩) ?_ ?_
          rotate_left
          · intro w'
            go_simp
            with_reducible rfl
          rotate_left
          · simp only [Act.put, List.setIfInBounds_toArray, List.set_cons_zero, List.set_cons_succ, i64_w, i32_w]
            rfl
          refine take_ (i := 3) (N := some 28) (v := ?_) (a' := ?_) #[true, true, true, true, true, false, true, false, true, true, true, false, true, false, true, false, false] rfl rfl (by kernel_rfl) (fun _ _ _ h => h) (Or.inl ⟨by rfl, ?_⟩) hHeld ?_ ?_
          rotate_left
          · rintro w' ⟨s0, s1⟩
            go_simp
            with_reducible rfl
          rotate_left
          · simp only [Act.put, List.setIfInBounds_toArray, List.set_cons_zero, List.set_cons_succ, i64_w, i32_w]
            rfl
          refine pure_ (i := 5) (N := some 30) (v := ?_) (a' := ?_) #[true, true, true, true, true, true, true, false, true, true, true, false, true, false, true, false, false] rfl rfl (by kernel_rfl) (fun _ _ _ h => h) (Or.inl ⟨by rfl, ?_⟩) ?_ ?_
          rotate_left
          · intro w'
            go_simp
            with_reducible rfl
          rotate_left
          · simp only [Act.put, List.setIfInBounds_toArray, List.set_cons_zero, List.set_cons_succ, i64_w, i32_w]
            rfl
          refine pure_ (i := 7) (N := some 32) (v := ?_) (a' := ?_) #[true, true, true, true, true, true, true, true, true, true, true, false, true, false, true, false, false] rfl rfl (by kernel_rfl) (fun _ _ _ h => h) (Or.inl ⟨by rfl, ?_⟩) ?_ ?_
          rotate_left
          · intro w'
            go_simp
            with_reducible rfl
          rotate_left
          · simp only [Act.put, List.setIfInBounds_toArray, List.set_cons_zero, List.set_cons_succ, i64_w, i32_w]
            rfl
          refine take_ (i := 11) (N := some 36) (v := ?_) (a' := ?_) #[true, true, true, true, true, true, true, true, true, true, true, true, true, false, true, false, false] rfl rfl (by kernel_rfl) (fun _ _ _ h => h) (Or.inl ⟨by rfl, ?_⟩) hHeld ?_ ?_
          rotate_left
          · rintro w' ⟨s0, s1⟩
            go_simp
            with_reducible rfl
          rotate_left
          · simp only [Act.put, List.setIfInBounds_toArray, List.set_cons_zero, List.set_cons_succ, i64_w, i32_w]
            rfl
          refine pure_ (i := 13) (N := some 38) (v := ?_) (a' := ?_) #[true, true, true, true, true, true, true, true, true, true, true, true, true, true, true, false, false] rfl rfl (by kernel_rfl) (fun _ _ _ h => h) (Or.inl ⟨by rfl, ?_⟩) ?_ ?_
          rotate_left
          · intro w'
            go_simp
            with_reducible rfl
          rotate_left
          · simp only [Act.put, List.setIfInBounds_toArray, List.set_cons_zero, List.set_cons_succ, i64_w, i32_w]
            rfl
          refine pure_ (i := 15) (N := some 40) (v := ?_) (a' := ?_) #[true, true, true, true, true, true, true, true, true, true, true, true, true, true, true, true, false] rfl rfl (by kernel_rfl) (fun _ _ _ h => h) (Or.inl ⟨by rfl, ?_⟩) ?_ ?_
          rotate_left
          · intro w'
            go_simp
            with_reducible rfl
          rotate_left
          · simp only [Act.put, List.setIfInBounds_toArray, List.set_cons_zero, List.set_cons_succ, i64_w, i32_w]
            rfl
          refine last_ (i := 16) (N := some 41) #[true, true, true, true, true, true, true, true, true, true, true, true, true, true, true, true, true] rfl rfl (by kernel_rfl) (by decide) (fun K hK => ?_)
          refine value_ (w1 := ?_) (v := ?_) (by rfl) rfl ?_ ?_
          rotate_left 2
          · go_simp
            constructor
            · rfl
            · rfl
          refine hK.out _ _ ?_
          clear hK K
          refine norm_ (a' := ?_) ?_ ?_
          rotate_left
          · show Act.put _ (some 41) _ = _
            simp only [Act.put, List.setIfInBounds_toArray, List.set_cons_zero, List.set_cons_succ, i64_w, i32_w]
            rfl
          refine done_ (by kernel_rfl) ?_
          go_wp2
          go_roundw
          case rel => exact ⟨k + 1, 0, now1, by omega, by omega, by go_num, rfl, ⟨HD.out.drew⟩, ⟨HB.out.drew⟩, ⟨HST.out.symm⟩⟩
          case measure => simp [intOf]; omega
        · have j4 : (0 : Int) ≤ (t1 : Int) := by omega
          have j5 : (t1 : Int) ≤ 64 := by omega
          have j6 : ¬ 64 = t1 := by omega
          have hcp := fun ty => (HD.out.drew.copyNow q hqN t1 ht1 (some ⟨a.o, q * 64 + t1, none⟩) (64 - t1) (64 - t1) (64 - t1) ((s.old.getD q []).drop t1) rfl (HD.out.drew.secO q hqN t1 ht1) 22 ty).resolve_right h64
          have hso := HD.out.ok.old.at_ q hqN
          have hsn := HD.out.ok.now.at_ q hqN
          have HN := Aside0.mk (HD.out.drew.setNow q hqN ((now1.getD q []).take t1 ++ (s.old.getD q []).drop t1) (by rw [List.length_append, List.length_take, List.length_drop, hsn.1, hso.1]; omega) ((hsn.2.take _).append (hso.2.drop _)))
          have HLO := Aside0.mk (show lost s.old now1 q t1 = now1.set q ((now1.getD q []).take t1 ++ (s.old.getD q []).drop t1) from rfl)
          clear hso hsn
          simp only at hcp
          generalize hNW : now1.set q ((now1.getD q []).take t1 ++ (s.old.getD q []).drop t1) = NW at *
          clear hNW
          go_wp2
          refine start_ (n := 17) (S := fun w' => w'.cell? ⟨a.d, 0, none⟩ = some (.slice (some ⟨a.n, 0, none⟩) N a.cn) ∧ w'.cell? ⟨a.d, 1, none⟩ = some (.slice (some ⟨a.o, 0, none⟩) N a.co)) (ds := [16]) #[false, false, false, false, false, false, false, false, false, false, false, false, false, false, false, false, false] (by kernel_rfl) rfl rfl ⟨h0, h1⟩ (fun hHeld => ?_)
          refine pure_ (i := 0) (N := some 25) (v := ?_) (a' := ?_) #[true, false, false, false, false, false, false, false, false, false, false, false, false, false, false, false, false] rfl rfl (by kernel_rfl) (fun _ _ _ h => h) (Or.inl ⟨by rfl, ?_⟩) ?_ ?_
          rotate_left
          · intro w'
            go_simp
            with_reducible rfl
          rotate_left
          · simp only [Act.put, List.setIfInBounds_toArray, List.set_cons_zero, List.set_cons_succ, i64_w, i32_w]
            rfl
          refine pure_ (i := 1) (N := some 26) (v := ?_) (a' := ?_) #[true, true, false, false, false, false, false, false, false, false, false, false, false, false, false, false, false] rfl rfl (by kernel_rfl) (fun _ _ _ h => h) (Or.inl ⟨by rfl, ?_⟩) ?_ ?_
          rotate_left
          · intro w'
            go_simp
            with_reducible rfl
          rotate_left
          · simp only [Act.put, List.setIfInBounds_toArray, List.set_cons_zero, List.set_cons_succ, i64_w, i32_w]
            rfl
          refine pure_ (i := 2) (N := some 27) (v := ?_) (a' := ?_) #[true, true, true, false, false, false, false, false, false, false, false, false, false, false, false, false, false] rfl rfl (by kernel_rfl) (fun _ _ _ h => h) (Or.inl ⟨by rfl, ?_⟩) ?_ ?_
          rotate_left
          · intro w'
            go_simp
            with_reducible rfl
          rotate_left
          · simp only [Act.put, List.setIfInBounds_toArray, List.set_cons_zero, List.set_cons_succ, i64_w, i32_w]
            rfl
          refine pure_ (i := 4) (N := some 29) (v := ?_) (a' := ?_) #[true, true, true, false, true, false, false, false, false, false, false, false, false, false, false, false, false] rfl rfl (by kernel_rfl) (fun _ _ _ h => h) (Or.inl ⟨by rfl, ?_⟩) ?_ ?_
          rotate_left
          · intro w'
            go_simp
            with_reducible rfl
          rotate_left
          · simp only [Act.put, List.setIfInBounds_toArray, List.set_cons_zero, List.set_cons_succ, i64_w, i32_w]
            rfl
          refine pure_ (i := 6) (N := some 31) (v := ?_) (a' := ?_) #[true, true, true, false, true, false, true, false, false, false, false, false, false, false, false, false, false] rfl rfl (by kernel_rfl) (fun _ _ _ h => h) (Or.inl ⟨by rfl, ?_⟩) ?_ ?_
          rotate_left
          · intro w'
            go_simp
            with_reducible rfl
          rotate_left
          · simp only [Act.put, List.setIfInBounds_toArray, List.set_cons_zero, List.set_cons_succ, i64_w, i32_w]
            rfl
          refine pure_ (i := 8) (N := some 33) (v := ?_) (a' := ?_) #[true, true, true, false, true, false, true, false, true, false, false, false, false, false, false, false, false] rfl rfl (by kernel_rfl) (fun _ _ _ h => h) (Or.inl ⟨by rfl, ?_⟩) ?_ ?_
          rotate_left
          · intro w'
            go_simp
            with_reducible rfl
          rotate_left
          · simp only [Act.put, List.setIfInBounds_toArray, List.set_cons_zero, List.set_cons_succ, i64_w, i32_w]
            rfl
          refine pure_ (i := 9) (N := some 34) (v := ?_) (a' := ?_) #[true, true, true, false, true, false, true, false, true, true, false, false, false, false, false, false, false] rfl rfl (by kernel_rfl) (fun _ _ _ h => h) (Or.inl ⟨by rfl, ?_⟩) ?_ ?_
          rotate_left
          · intro w'
            go_simp
            with_reducible rfl
          rotate_left
          · simp only [Act.put, List.setIfInBounds_toArray, List.set_cons_zero, List.set_cons_succ, i64_w, i32_w]
            rfl
          refine pure_ (i := 10) (N := some 35) (v := ?_) (a' := ?_) #[true, true, true, false, true, false, true, false, true, true, true, false, false, false, false, false, false] rfl rfl (by kernel_rfl) (fun _ _ _ h => h) (Or.inl ⟨by rfl, ?_⟩) ?_ ?_
          rotate_left
          · intro w'
            go_simp
            with_reducible rfl
          rotate_left
          · simp only [Act.put, List.setIfInBounds_toArray, List.set_cons_zero, List.set_cons_succ, i64_w, i32_w]
            rfl
          refine pure_ (i := 12) (N := some 37) (v := ?_) (a' := ?_) #[true, true, true, false, true, false, true, false, true, true, true, false, true, false, false, false, false] rfl rfl (by kernel_rfl) (fun _ _ _ h => h) (Or.inl ⟨by rfl, ?_⟩) ?_ ?_
          rotate_left
          · intro w'
            go_simp
            with_reducible rfl
          rotate_left
          · simp only [Act.put, List.setIfInBounds_toArray, List.set_cons_zero, List.set_cons_succ, i64_w, i32_w]
            rfl
          refine pure_ (i := 14) (N := some 39) (v := ?_) (a' := ?_) #[true, true, true, false, true, false, true, false, true, true, true, false, true, false, true, false, false] rfl rfl (by kernel_rfl) (fun _ _ _ h => h) (Or.inl ⟨by rfl, ?_⟩) ?_ ?_
          rotate_left
          · intro w'
            go_simp
            with_reducible rfl
          rotate_left
          · simp only [Act.put, List.setIfInBounds_toArray, List.set_cons_zero, List.set_cons_succ, i64_w, i32_w]
            rfl
          refine take_ (i := 3) (N := some 28) (v := ?_) (a' := ?_) #[true, true, true, true, true, false, true, false, true, true, true, false, true, false, true, false, false] rfl rfl (by kernel_rfl) (fun _ _ _ h => h) (Or.inl ⟨by rfl, ?_⟩) hHeld ?_ ?_
          rotate_left
          · rintro w' ⟨s0, s1⟩
            go_simp
            with_reducible rfl
          rotate_left
          · simp only [Act.put, List.setIfInBounds_toArray, List.set_cons_zero, List.set_cons_succ, i64_w, i32_w]
            rfl
          refine pure_ (i := 5) (N := some 30) (v := ?_) (a' := ?_) #[true, true, true, true, true, true, true, false, true, true, true, false, true, false, true, false, false] rfl rfl (by kernel_rfl) (fun _ _ _ h => h) (Or.inl ⟨by rfl, ?_⟩) ?_ ?_
          rotate_left
          · intro w'
            go_simp
            with_reducible rfl
          rotate_left
          · simp only [Act.put, List.setIfInBounds_toArray, List.set_cons_zero, List.set_cons_succ, i64_w, i32_w]
            rfl
          refine pure_ (i := 7) (N := some 32) (v := ?_) (a' := ?_) #[true, true, true, true, true, true, true, true, true, true, true, false, true, false, true, false, false] rfl rfl (by kernel_rfl) (fun _ _ _ h => h) (Or.inl ⟨by rfl, ?_⟩) ?_ ?_
          rotate_left
          · intro w'
            go_simp
            with_reducible rfl
          rotate_left
          · simp only [Act.put, List.setIfInBounds_toArray, List.set_cons_zero, List.set_cons_succ, i64_w, i32_w]
            rfl
          refine take_ (i := 11) (N := some 36) (v := ?_) (a' := ?_) #[true, true, true, true, true, true, true, true, true, true, true, true, true, false, true, false, false] rfl rfl (by kernel_rfl) (fun _ _ _ h => h) (Or.inl ⟨by rfl, ?_⟩) hHeld ?_ ?_
          rotate_left
          · rintro w' ⟨s0, s1⟩
            go_simp
            with_reducible rfl
          rotate_left
          · simp only [Act.put, List.setIfInBounds_toArray, List.set_cons_zero, List.set_cons_succ, i64_w, i32_w]
            rfl
          refine pure_ (i := 13) (N := some 38) (v := ?_) (a' := ?_) #[true, true, true, true, true, true, true, true, true, true, true, true, true, true, true, false, false] rfl rfl (by kernel_rfl) (fun _ _ _ h => h) (Or.inl ⟨by rfl, ?_⟩) ?_ ?_
          rotate_left
          · intro w'
            go_simp
            with_reducible rfl
          rotate_left
          · simp only [Act.put, List.setIfInBounds_toArray, List.set_cons_zero, List.set_cons_succ, i64_w, i32_w]
            rfl
          refine pure_ (i := 15) (N := some 40) (v := ?_) (a' := ?_) #[true, true, true, true, true, true, true, true, true, true, true, true, true, true, true, true, false] rfl rfl (by kernel_rfl) (fun _ _ _ h => h) (Or.inl ⟨by rfl, ?_⟩) ?_ ?_
          rotate_left
          · intro w'
            go_simp
            with_reducible rfl
          rotate_left
          · simp only [Act.put, List.setIfInBounds_toArray, List.set_cons_zero, List.set_cons_succ, i64_w, i32_w]
            rfl
          refine last_ (i := 16) (N := some 41) #[true, true, true, true, true, true, true, true, true, true, true, true, true, true, true, true, true] rfl rfl (by kernel_rfl) (by decide) (fun K hK => ?_)
          refine value_ (w1 := ?_) (v := ?_) (by rfl) rfl ?_ ?_
          rotate_left 2
          · go_simp
            constructor
            · rfl
            · rfl
          refine hK.out _ _ ?_
          clear hK K
          refine norm_ (a' := ?_) ?_ ?_
          rotate_left
          · show Act.put _ (some 41) _ = _
            simp only [Act.put, List.setIfInBounds_toArray, List.set_cons_zero, List.set_cons_succ, i64_w, i32_w]
            rfl
          refine done_ (by kernel_rfl) ?_
          go_wp2
          go_roundw
          case rel => exact ⟨k + 1, 0, NW, by omega, by omega, by go_num, rfl, HN, ⟨HB.out.drew.setRow (.inr (.inl rfl)) _⟩, ⟨by rw [← HLO.out]; exact HST.out.symm⟩⟩
          case measure => simp [intOf]; omega
      · rw [hkp] at HST
        simp only [if_true] at HST
        have hkp' : (bits .and .i64 (keep / 2 ^ (k % 62)) 1 == 1) = true := hkp
        clear hkp
        go_wp2
        go_roundw
        case rel => exact ⟨k + 1, t1, now1, by omega, ht1, by go_num, rfl, HD, HB, ⟨HST.out.symm⟩⟩
        case measure => simp [intOf]; omega
    · obtain rfl : k = M := by omega
      have HE := Aside0.mk (show now1 = F from by
        have := HL.out
        rw [List.drop_eq_nil_of_le (by rw [← HM.out]; omega)] at this
        exact this)
      go_wp2_with fail
      refine (settle_calls a N _ _ HD.out hN).mono ?_
      rintro e w2 ⟨rfl, h2, hb2⟩
      have H2 := Aside0.mk h2
      have HB2 := Aside0.mk (HB.out.trans hb2)
      have c3 := h2.c3
      have c4 := h2.c4
      have c5 := h2.c5
      have f3 := h2.fz 3
      have f4 := h2.fz 4
      have f5 := h2.fz 5
      clear h2 hb2
      go_wp2
      go_end0
      refine ⟨rfl, w1, HB1.out, ((HB2.out.set (.inl rfl) _).set (.inl rfl) _).set (.inl rfl) _, ?_⟩
      rw [HF0.out, ← HE.out]
      exact ((H2.out.setDead false).setLit false).setLeft 0 (by omega) (by omega)
end Go.Proofs.Ytcgmnmohpkolmaa
