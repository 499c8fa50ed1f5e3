/- AdlerFinds returns true: a seal of which one byte is another one is not opened. -/
import Derived.Test.YtcgmnmohpkolmaaAdlerParts
import Derived.Test.YtcgmnmohpkolmaaAdlerFindsPure
import Derived.Laws.BitsAllLaws
namespace Go.Proofs.Ytcgmnmohpkolmaa
open Go.RowKit Go.Proofs.YtcgmnmohpkolmaaW.PrintWords Go.Proofs.YtcgmnmohpkolmaaW.PrintLast Go.Proofs.YtcgmnmohpkolmaaW.PrintMore
set_option linter.unusedVariables false
set_option linter.unusedSimpArgs false
theorem xor8 (u x : Int) (hu : 0 ≤ u ∧ u < 256) (hx : 0 ≤ x ∧ x < 256) : (0 ≤ bits .xor .u8 u x ∧ bits .xor .u8 u x < 256) ∧ (bits .xor .u8 u x = u ↔ x = 0) := by
  rw [u8_xor u x hu.1 hu.2 hx.1 hx.2]
  have h1 : u.toNat ^^^ x.toNat < 2 ^ 8 := Nat.xor_lt_two_pow (by omega) (by omega)
  refine ⟨by omega, fun h => ?_, fun h => ?_⟩
  · have h2 : u.toNat ^^^ x.toNat = u.toNat := by omega
    have h3 : u.toNat ^^^ (u.toNat ^^^ x.toNat) = 0 := by rw [h2, Nat.xor_self]
    rw [← Nat.xor_assoc, Nat.xor_self, Nat.zero_xor] at h3
    omega
  · subst h
    simp
    omega
theorem OB_at {W : World} {base g n cap : Nat} {xs : List Int} (h : OB W base (.slice (some ⟨g, 0, none⟩) n cap) xs) (k : Nat) (hk : k < n) : W.cell? ⟨g, k, none⟩ = some (.int .u8 (rd xs k)) ∧ W.frozen? ⟨g, k, none⟩ = false := by
  have := Kd.R_celln (0 : Int) h k (by omega) (by omega)
  simpa [rd, rdOf] using this
theorem OB_put {W : World} {base g n cap : Nat} {xs : List Int} (h : OB W base (.slice (some ⟨g, 0, none⟩) n cap) xs) (k : Nat) (x : Int) : OB (W.setCell ⟨g, k, none⟩ (.int .u8 x)) base (.slice (some ⟨g, 0, none⟩) n cap) (xs.set k x) := by
  have := Kd.R_putn h k x
  simp only [Int.toNat_natCast] at this
  exact this
set_option maxHeartbeats 4000000 in
theorem adlerFinds_calls (A : Option Addr) (c : Nat) (l : List Int) (ix x : Int) (w : World) (hr : RB w A l.length l) (hc : l.length ≤ c) (hy : l.length * 1 ≤ 140737488351232) (hw : ∀ x ∈ l, (Lit.int .u8 x).wf = true) (hi : (Lit.int .i64 ix).wf = true) (hx : (Lit.int .u8 x).wf = true) :
    Calls Try.prog 7 #[.slice A l.length c, .int .i64 ix, .int .u8 x] w fun e w' => e = .returned (.bool true) ∧ Below w.heap.size w w' := by
  have hb := byt_of_wf hw
  have hbx := bounds_u8 hx
  have K1 := Aside0.mk (seal_calls A _ c l w hr hc hb (by omega))
  have HR := Aside0.mk hr
  have HB := Aside0.mk hb
  have K2 := fun (B : Option Addr) (nb cb : Nat) (W : World) (hC : RB W B nb (sealed l)) (hcb : nb ≤ cb) (hn : nb ≤ 140737488355328) => open_calls B nb cb (sealed l) W hC hcb (sealed_byt hb) hn
  simp only [opens_sealed, opened_sealed] at K2
  have HK2 := Aside0.mk K2
  have HS := Aside0.mk (sealed_length l)
  have hn : l.length ≤ 140737488351232 := by omega
  clear hr hw hx hi hb K2 hy
  go_enter Try.func7, Try.ntmps7
  go_wp2_with fail
  refine K1.out.mono ?_
  rintro e w1 ⟨v1, rfl, ho1, hb1⟩
  obtain ⟨A1, c1, rfl, hc1, hC1⟩ := OB_reads ho1
  have H1 := Aside0.mk hC1
  have HB1 := Aside0.mk hb1
  rw [HS.out] at hc1 H1 ⊢
  clear ho1 hC1 hb1
  go_wp2_with fail
  refine (HK2.out _ _ _ _ H1.out hc1 (by omega)).mono ?_
  rintro e w2 ⟨v2, rfl, ho2, hb2⟩
  obtain ⟨A2, c2, rfl, hc2, hC2⟩ := OB_reads ho2
  have H2 := Aside0.mk hC2
  have HB2 := Aside0.mk (below_step HB1.out hb2)
  have H1' := Aside0.mk (Kd.C_below H1.out hb2)
  clear ho2 hC2 hb2
  go_wp2_with fail
  refine (sameb_calls _ _ _ l _ _ _ l _ H2.out (Kd.C_below HR.out HB2.out)).mono ?_
  rintro e w3 ⟨rfl, ⟨m3, rfl⟩⟩
  go_wp2_with fail
  have hwi := wi_bd ix ((l.length : Int) + 4) (by omega)
  refine (within_calls _ _ _ (by omega)).mono ?_
  rintro e w4 ⟨rfl, rfl⟩
  obtain ⟨k, hk⟩ : ∃ k : Nat, wi ix ((l.length : Int) + 4) = (k : Int) := ⟨(wi ix ((l.length : Int) + 4)).toNat, by omega⟩
  rw [hk] at hwi ⊢
  clear hk
  have hkl : k < l.length + 4 := by omega
  have H1'' := Aside0.mk (Kd.C_drewN H1'.out m3)
  have HB4 := Aside0.mk (pw_below_drewN HB2.out m3)
  generalize w2.drewN m3 = W4 at *
  go_wp2_with fail
  refine (copyb_calls _ _ _ _ _ H1''.out (by omega)).mono ?_
  rintro e w5 ⟨v5, rfl, ho5, hb5⟩
  obtain ⟨g, cap, rfl, hg, hglt, _⟩ := Kd.R_form ho5 (by rw [HS.out]; omega)
  have HB5 := Aside0.mk (below_step HB4.out hb5)
  have H5 := Aside0.mk ho5
  rw [HS.out] at H5 ⊢
  obtain ⟨hcell, hfz⟩ := OB_at H5.out k hkl
  have hgw : w.heap.size ≤ g := Nat.le_trans HB4.out.size hg
  clear ho5 hb5
  generalize hu : rd (sealed l) k = u at *
  have HU := Aside0.mk hu
  clear hu
  have hub : 0 ≤ u ∧ u < 256 := by rw [← HU.out]; exact (sealed_byt HB.out).at_ k (by rw [HS.out]; exact hkl)
  obtain ⟨⟨z0, z1⟩, hz⟩ := xor8 u x hub ⟨hbx.1, by omega⟩
  have HZ := Aside0.mk hz
  clear hz
  have HB6 := Aside0.mk (below_set (j := k) (v := .int .u8 (bits .xor .u8 u x)) HB5.out hgw)
  have H6 := Aside0.mk (OB_put H5.out k (bits .xor .u8 u x))
  have HY6 := Aside0.mk (show Byt ((sealed l).set k (bits .xor .u8 u x)) from fun y hy => by
    rcases List.mem_or_eq_of_mem_set hy with hy | rfl
    · exact sealed_byt HB.out y hy
    · exact ⟨z0, z1⟩)
  have HO := Aside0.mk (opens_set l HB.out k hkl (bits .xor .u8 u x) ⟨z0, z1⟩)
  rw [HU.out] at HO
  go_wp2_with fail
  generalize bits BinOp.xor IntKind.u8 u x = z at *
  obtain ⟨A6, c6, e6, hc6, hC6⟩ := OB_reads H6.out
  injection e6 with e6 e7 e8
  subst e6 e8
  rw [← e7] at hC6 hc6
  have H6C := Aside0.mk hC6
  clear e7 hC6 hcell hfz
  generalize w5.setCell { block := g, off := k } (Value.int IntKind.u8 z) = W6 at *
  by_cases hx0 : x = 0
  · have ho : opens ((sealed l).set k z) = true := by rw [HO.out, decide_eq_true (HZ.out.2 hx0)]
    have K6 := open_calls _ _ _ _ W6 H6C.out hc6 HY6.out (by omega)
    rw [ho] at K6
    refine K6.mono ?_
    rintro e w7 ⟨v7, rfl, ho7, hb7⟩
    obtain ⟨A7, c7, rfl, hc7, hC7⟩ := OB_reads ho7
    have HB7 := Aside0.mk (below_step HB6.out hb7)
    clear ho hC7 hc7 ho7 hb7 K6
    subst hx0
    go_wp2_with fail
    refine (wakes_calls _).mono ?_
    rintro e w8 ⟨rfl, hb8⟩
    go_wp2
    go_ret
    exact ⟨rfl, below_step HB7.out hb8⟩
  · have ho : opens ((sealed l).set k z) = false := by rw [HO.out, decide_eq_false (fun h => hx0 (HZ.out.1 h))]
    have K6 := open_calls _ _ _ _ W6 H6C.out hc6 HY6.out (by omega)
    rw [ho, opened_no ho] at K6
    have hx1 : (x == 0) = false := by simp [hx0]
    refine K6.mono ?_
    rintro e w7 ⟨v7, rfl, ho7, hb7⟩
    obtain ⟨A7, c7, rfl, hc7, hC7⟩ := OB_reads ho7
    have HB7 := Aside0.mk (below_step HB6.out hb7)
    clear ho hC7 hc7 ho7 hb7 K6 hx0
    go_wp2_with fail
    refine (wakes_calls _).mono ?_
    rintro e w8 ⟨rfl, hb8⟩
    go_wp2
    go_ret
    exact ⟨rfl, below_step HB7.out hb8⟩
end Go.Proofs.Ytcgmnmohpkolmaa
