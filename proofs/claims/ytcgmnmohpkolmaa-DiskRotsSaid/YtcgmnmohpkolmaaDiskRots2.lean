/- DiskRots returns true: the walk. -/
import Derived.Test.YtcgmnmohpkolmaaDiskRots
namespace Go.Proofs.Ytcgmnmohpkolmaa
open Go.RowKit Go.Proofs.YtcgmnmohpkolmaaW.PrintWords Go.Proofs.YtcgmnmohpkolmaaW.PrintLast Go.Proofs.YtcgmnmohpkolmaaW.PrintMore
set_option linter.unusedVariables false
set_option linter.unusedSimpArgs false
set_option maxRecDepth 100000
set_option maxHeartbeats 8000000 in
theorem diskRots_calls (ix x : Int) (wet : Bool) (w : World) (hi : (Lit.int .i64 ix).wf = true) (hx : (Lit.int .u8 x).wf = true) :
    Calls Try.prog 9 #[.int .i64 ix, .int .u8 x, .bool wet] w fun e w' => e = .returned (.bool true) ∧ Below w.heap.size w w' := by
  have hbx := bounds_u8 hx
  have hx0 : 0 ≤ x ∧ x < 256 := ⟨hbx.1, by omega⟩
  clear hi hx hbx
  go_enter Try.func9, Try.ntmps9
  go_wp2_with fail
  refine (new_calls 3 3 rfl _ (by omega) (by omega)).mono ?_
  rintro e w1 ⟨a, rfl, h1, ha, hb1⟩
  have H1 := Aside0.mk h1
  have HB1 := Aside0.mk hb1
  have HA := Aside0.mk ha
  clear h1 hb1 ha
  go_upto_region 2 with (fail)
  go_cut [27] (fun s27 wx => s27 = .bool false ∧ Aside0 (Dsk wx a 3 (rk2 wet)) ∧ Aside0 (Below w.heap.size w wx))
  case first =>
    go_wp2_with fail
    refine (sector_calls 9 _ (by omega)).mono ?_
    rintro e w3 ⟨v3, rfl, ho3, hb3⟩
    obtain ⟨A3, c3, rfl, hc3, hC3⟩ := OB_reads ho3
    have HA3 := Aside0.mk (OB_away ho3 rfl (by simp) H1.out.lt)
    have HC3 := Aside0.mk hC3
    have H3 := Aside0.mk (H1.out.after hb3)
    have HB3 := Aside0.mk (below_step HB1.out hb3)
    clear ho3 hb3 hC3
    rw [List.length_replicate] at hc3 HC3 ⊢
    go_wp2_with fail
    refine (write_calls a 3 _ 1 _ _ _ (List.replicate 64 9) _ H3.out HC3.out (byt_rep _ _ (by omega)) HA3.out).mono ?_
    rw [rk_write]
    rintro e w4 ⟨rfl, h4, hb4⟩
    have H4 := Aside0.mk h4
    have HB4 := Aside0.mk (But.step HB3.out hb4 HA.out)
    clear h4 hb4 HC3 HA3
    cases wet
    · go_wp2_with fail
      refine (barrier_calls a 3 _ _ H4.out (by omega)).mono ?_
      rw [show (0, rk1).2.barrier = (0, rk2 false) from rk_barrier]
      rintro e w5 ⟨rfl, h5, hb5⟩
      have H5 := Aside0.mk h5
      have HB5 := Aside0.mk (But.step HB4.out hb5 HA.out)
      clear h5 hb5
      go_wp2_with fail
      go_meet
      exact ⟨rfl, H5, HB5⟩
    · go_wp2_with fail
      go_meet
      exact ⟨rfl, H4, HB4⟩
  obtain ⟨rfl, HD, HW⟩ := hcut
  have hwi := wi_bd ix 64 (by omega)
  go_wp2_with fail
  refine (within_calls _ _ _ (by omega)).mono ?_
  rintro e w3 ⟨rfl, rfl⟩
  obtain ⟨p, hp⟩ : ∃ p : Nat, wi ix 64 = (p : Int) := ⟨(wi ix 64).toNat, by omega⟩
  rw [hp] at hwi ⊢
  clear hp
  have hp64 : p < 64 := by omega
  obtain ⟨⟨y0, y1⟩, yn⟩ := or8 x hx0
  have n1 : DS.rots 3 1 p 0 = false := by simp [DS.rots]
  have n2 : DS.rots 3 3 p 1 = false := by simp [DS.rots, isB]
  have n3 : DS.rots 3 (-1) p 1 = false := by simp [DS.rots, isB]
  have n4 : DS.rots 3 1 (64 + p) 1 = false := by simp [DS.rots]; omega
  have n5 : DS.rots 3 1 (-1 - p) 1 = false := by simp [DS.rots]; omega
  have n6 : DS.rots 3 1 p (bits .or .u8 x 1) = true := by simp [DS.rots, isB, yn]; omega
  have N1 := Aside0.mk n1
  have N2 := Aside0.mk n2
  have N3 := Aside0.mk n3
  have N4 := Aside0.mk n4
  have N5 := Aside0.mk n5
  have N6 := Aside0.mk n6
  clear n1 n2 n3 n4 n5 n6 yn
  go_wp2_with fail
  refine (rot_calls a 3 _ 1 p 0 _ HD.out (by omega)).mono ?_
  rw [rot_no _ _ _ _ _ N1.out, N1.out]
  rintro e w2 ⟨rfl, h2, hb2⟩
  have H2 := Aside0.mk h2
  have HB2 := Aside0.mk (But.step HW.out hb2 HA.out)
  clear h2 hb2 HD HW
  go_wp2_with fail
  refine (rot_calls a 3 _ 3 p 1 _ H2.out (by omega)).mono ?_
  rw [rot_no _ _ _ _ _ N2.out, N2.out]
  rintro e w3 ⟨rfl, h3, hb3⟩
  have H3 := Aside0.mk h3
  have HB3 := Aside0.mk (But.step HB2.out hb3 HA.out)
  clear h3 hb3 H2 HB2
  go_wp2_with fail
  refine (rot_calls a 3 _ (-1) p 1 _ H3.out (by omega)).mono ?_
  rw [rot_no _ _ _ _ _ N3.out, N3.out]
  rintro e w4 ⟨rfl, h4, hb4⟩
  have H4 := Aside0.mk h4
  have HB4 := Aside0.mk (But.step HB3.out hb4 HA.out)
  clear h4 hb4 H3 HB3
  go_wp2_with fail
  refine (rot_calls a 3 _ 1 (64 + p) 1 _ H4.out (by omega)).mono ?_
  rw [rot_no _ _ _ _ _ N4.out, N4.out]
  rintro e w5 ⟨rfl, h5, hb5⟩
  have H5 := Aside0.mk h5
  have HB5 := Aside0.mk (But.step HB4.out hb5 HA.out)
  clear h5 hb5 H4 HB4
  go_wp2_with fail
  refine (rot_calls a 3 _ 1 (-1 - p) 1 _ H5.out (by omega)).mono ?_
  rw [rot_no _ _ _ _ _ N5.out, N5.out]
  rintro e w6 ⟨rfl, h6, hb6⟩
  have H6 := Aside0.mk h6
  have HB6 := Aside0.mk (But.step HB5.out hb6 HA.out)
  clear h6 hb6 H5 HB5
  go_wp2_with fail
  generalize hY : bits BinOp.or IntKind.u8 x 1 = y at *
  have HYY := Aside0.mk hY
  clear hY
  refine (rot_calls a 3 _ 1 p y _ H6.out ⟨y0, y1⟩).mono ?_
  rw [N6.out]
  rintro e w7 ⟨rfl, h7, hb7⟩
  have H7 := Aside0.mk h7
  have HB7 := Aside0.mk (But.step HB6.out hb7 HA.out)
  clear h7 hb7 H6 HB6
  have e7 := rot_read1 (rk2 wet) _ _ _ (rk_now wet) p y N6.out
  rw [rd_rep 64 9 p hp64] at e7
  have E7 := Aside0.mk e7
  clear e7
  go_wp2_with fail
  refine (read_calls a 3 _ 1 _ H7.out).mono ?_
  rw [read_one _ _ _ _ E7.out]
  rintro e w8 ⟨v8, rfl, ho8, hb8⟩
  have HO8 := Aside0.mk ho8
  have H8 := Aside0.mk (H7.out.after hb8)
  have HB8 := Aside0.mk (below_step HB7.out hb8)
  have HLT := Aside0.mk H7.out.lt
  clear ho8 hb8
  go_wp2_with fail
  refine (sector_calls 9 _ (by omega)).mono ?_
  rintro e w9 ⟨v9, rfl, ho9, hb9⟩
  obtain ⟨g8, c8, rfl, hg8, hgl8, _⟩ := Kd.R_form HO8.out (by simp)
  obtain ⟨g9, c9, rfl, hg9, hgl9, _⟩ := Kd.R_form ho9 (by simp)
  have hgg : g8 < g9 := by omega
  have HO89 := Aside0.mk (Kd.R_below HO8.out hb9)
  have HO9 := Aside0.mk ho9
  have H9 := Aside0.mk (H8.out.after hb9)
  have HB9 := Aside0.mk (below_step HB8.out hb9)
  simp only [List.length_set, List.length_replicate] at HO89 HO9 ⊢
  clear ho9 hb9 HO8 H8 HB8
  obtain ⟨hc9, hf9⟩ := OB_at HO9.out p hp64
  rw [rd_rep 64 9 p hp64] at hc9
  have HP9 := Aside0.mk (OB_put HO9.out p (bits .xor .u8 9 y))
  have hY := HYY.out
  have i0 : (0 : Int) ≤ (p : Int) := by omega
  have i1 : (p : Int) < 64 := by omega
  have hw8 : w.heap.size ≤ g8 := Nat.le_trans HB7.out.size hg8
  go_wp2_with fail
  clear hc9 hf9 i0 i1
  obtain ⟨L, hL⟩ : ∃ L, L = (List.replicate 64 (9 : Int)).set p (bits .xor .u8 9 y) := ⟨_, rfl⟩
  have hLl : L.length = 64 := by rw [hL]; simp
  have HL := Aside0.mk hL
  rw [← hL] at HP9 HO89 E7
  clear hL
  have H10 := Aside0.mk (H9.out.far (p := ⟨g9, p, none⟩) (fun h => by have := HLT.out _ h; simp only at this; omega) (.int .u8 (bits .xor .u8 9 y)))
  have HB10 := Aside0.mk (below_set (j := p) (v := .int .u8 (bits .xor .u8 9 y)) HB9.out (show w.heap.size ≤ g9 by omega))
  have HC9 := Aside0.mk ((Kd.R_reads' HP9.out).2.2)
  have HC8 := Aside0.mk (RB_set ((Kd.R_reads' HO89.out).2.2) ⟨g9, p, none⟩ (.int .u8 (bits .xor .u8 9 y)) (fun ad e => by cases e; simp; omega))
  have hc8 := (OB_at HO89.out 0 (by omega)).1
  have hc8' : (w9.setCell ⟨g9, p, none⟩ (.int .u8 (bits .xor .u8 9 y))).cell? ⟨g8, 0, none⟩ = some (.int .u8 (rd L 0)) := by
    rw [World.cell?_of_block (Below.heap_setCell w9 ⟨g9, p, none⟩ _ g8 (by simp; omega))]
    exact hc8
  have hf8 := (OB_at HO89.out 0 (by omega)).2
  have hf8' : (w9.setCell ⟨g9, p, none⟩ (.int .u8 (bits .xor .u8 9 y))).frozen? ⟨g8, 0, none⟩ = false := by
    simpa using hf8
  rw [hLl] at HC8 HC9
  clear HP9 HO9 HO89 H9 HB9 hc8 hf8
  generalize w9.setCell ⟨g9, p, none⟩ (.int .u8 (bits .xor .u8 9 y)) = W10 at *
  refine (sameb_calls _ _ _ L _ _ _ L _ HC8.out HC9.out).mono ?_
  rintro e w11 ⟨rfl, ⟨m11, rfl⟩⟩
  generalize hu8 : rd L 0 = u at *
  clear hu8
  go_wp2_with fail
  have hw8' : ¬ a.has g8 := fun h => by have := HLT.out _ h; omega
  generalize hz8 : (Value.int IntKind.u8 _ : Value) = z8
  clear hz8 hc8' hf8'
  have H12 := Aside0.mk ((H10.out.drewN m11).far (p := ⟨g8, 0, none⟩) hw8' z8)
  have HB12 := Aside0.mk (below_set (j := 0) (v := z8) (pw_below_drewN HB10.out m11) hw8)
  have HC12 := Aside0.mk (RB_set (Kd.C_drewN HC9.out m11) ⟨g8, 0, none⟩ z8 (fun ad e => by cases e; simp; omega))
  clear HC8 HC9 H10 HB10
  generalize (W10.drewN m11).setCell ⟨g8, 0, none⟩ z8 = W12 at *
  refine (read_calls a 3 _ 1 _ H12.out).mono ?_
  rw [read_one _ _ _ _ E7.out]
  rintro e w13 ⟨v13, rfl, ho13, hb13⟩
  obtain ⟨A13, c13, rfl, hc13, hC13⟩ := OB_reads ho13
  rw [hLl] at hc13 hC13 ⊢
  have HC13 := Aside0.mk hC13
  have H13 := Aside0.mk (H12.out.after hb13)
  have HB13 := Aside0.mk (below_step HB12.out hb13)
  have HC913 := Aside0.mk (Kd.C_below HC12.out hb13)
  clear ho13 hb13 hC13
  go_wp2_with fail
  refine (sameb_calls _ _ _ L _ _ _ L _ HC13.out HC913.out).mono ?_
  rintro e w14 ⟨rfl, ⟨m14, rfl⟩⟩
  have n6 := N6.out
  have e14 := rot_read1 _ _ _ _ E7.out p y n6
  have hxb := xor8b 9 y (by omega) ⟨y0, y1⟩
  rw [show L.set p (bits .xor .u8 (rd L p) y) = List.replicate 64 9 from by
    rw [HL.out, rd_set _ _ (by simpa using hp64), List.set_set, xor_back 9 y (by omega) ⟨y0, y1⟩]
    have := set_self (l := List.replicate 64 (9 : Int)) p (by simpa using hp64)
    rwa [rd_rep 64 9 p hp64] at this] at e14
  have E14 := Aside0.mk e14
  clear n6 e14
  go_wp2_with fail
  refine (rot_calls a 3 _ 1 p y _ (H13.out.drewN m14) ⟨y0, y1⟩).mono ?_
  rw [N6.out]
  rintro e w15 ⟨rfl, h15, hb15⟩
  have H15 := Aside0.mk h15
  have HB15 := Aside0.mk (But.step (pw_below_drewN HB13.out m14) hb15 HA.out)
  clear h15 hb15 HC13 HC913
  go_wp2_with fail
  refine (read_calls a 3 _ 1 _ H15.out).mono ?_
  rw [read_one _ _ _ _ E14.out]
  rintro e w16 ⟨v16, rfl, ho16, hb16⟩
  obtain ⟨A16, c16, rfl, hc16, hC16⟩ := OB_reads ho16
  rw [List.length_replicate] at hc16 hC16 ⊢
  have HC16 := Aside0.mk hC16
  have H16 := Aside0.mk (H15.out.after hb16)
  have HB16 := Aside0.mk (below_step HB15.out hb16)
  clear ho16 hb16 hC16
  go_wp2_with fail
  refine (sector_calls 9 _ (by omega)).mono ?_
  rintro e w17 ⟨v17, rfl, ho17, hb17⟩
  obtain ⟨A17, c17, rfl, hc17, hC17⟩ := OB_reads ho17
  rw [List.length_replicate] at hc17 hC17 ⊢
  have HC17 := Aside0.mk hC17
  have HC1617 := Aside0.mk (Kd.C_below HC16.out hb17)
  have H17 := Aside0.mk (H16.out.after hb17)
  have HB17 := Aside0.mk (below_step HB16.out hb17)
  clear ho17 hb17 hC17
  go_wp2_with fail
  refine (sameb_calls _ _ _ (List.replicate 64 9) _ _ _ (List.replicate 64 9) _ HC1617.out HC17.out).mono ?_
  rintro e w18 ⟨rfl, ⟨m18, rfl⟩⟩
  have H18 := Aside0.mk (H17.out.drewN m18)
  have HB18 := Aside0.mk (pw_below_drewN HB17.out m18)
  clear H17 HB17 HC1617 HC17
  generalize w17.drewN m18 = w18 at *
  go_wp2_with fail
  refine (size_calls a 3 _ _ H18.out).mono ?_
  rintro e w19 ⟨rfl, rfl⟩
  go_wp2_with fail
  refine (pending_calls a 3 _ _ H18.out).mono ?_
  rintro e w20 ⟨v20, rfl, ho20, hb20⟩
  obtain ⟨A20, c20, rfl, hc20, hC20⟩ := Kd.R_reads ho20
  rw [rot_pending, rot_pending, rk_pend]
  have HB20 := Aside0.mk (below_step HB18.out hb20)
  clear ho20 hb20 hc20 hC20
  cases wet
  · go_wp2_with fail
    refine (wakes17_calls _).mono ?_
    rintro e w21 ⟨rfl, hb21⟩
    go_wp2
    go_ret
    exact ⟨rfl, below_step HB20.out hb21⟩
  · go_wp2_with fail
    refine (wakes17_calls _).mono ?_
    rintro e w21 ⟨rfl, hb21⟩
    go_wp2
    go_ret
    exact ⟨rfl, below_step HB20.out hb21⟩
end Go.Proofs.Ytcgmnmohpkolmaa
