/- Epochs by turns: what the disk of SuperTurns holds (no walk). -/
import Derived.Test.YtodhgohbcjnjfaaSuperPick
import Derived.Test.YtodhgohbcjnjfaaDiskNew
import Derived.Test.YtodhgohbcjnjfaaSector
import Derived.Test.YtodhgohbcjnjfaaDiskPend
namespace Go.Proofs.Ytodhgohbcjnjfaa
open Go.RowKit Go.Proofs.YtodhgohbcjnjfaaW.PrintWords Go.Proofs.YtodhgohbcjnjfaaW.PrintLast Go.Proofs.YtodhgohbcjnjfaaW.PrintMore
set_option linter.unusedVariables false
set_option linter.unusedSimpArgs false
set_option maxRecDepth 100000
def supT (e : Nat) : Sup := ⟨e, (e : Int) % 2, 10 * e, 0, 0⟩
def stT : Nat → DS
  | 0 => newDS 8
  | e + 1 => ((stT e).write 8 (((e + 1 : Nat) : Int) % 2) (supT (e + 1)).packed).2
theorem turn_write : ∀ e, e < 21 → ((stT e).write 8 (((e + 1 : Nat) : Int) % 2) (supT (e + 1)).packed).1 = 0 := by decide +kernel
theorem turn_pick : ∀ e, e < 22 → 1 ≤ e → (pick fun k => (stT e).read 8 k) = (supT e, true, false) := by decide +kernel
theorem turn_may : ∀ e, e < 22 → (supT e).may = true := by decide +kernel
theorem turn_read : ∀ e, e < 22 → 2 ≤ e → (stT e).read 8 ((e : Int) % 2) = (supT e).packed ∧ (stT e).read 8 (1 - (e : Int) % 2) = (supT (e - 1)).packed := by decide +kernel
theorem turn_live : ∀ e, e < 22 → (stT e).dead = false ∧ (stT e).lit = false := by decide +kernel
theorem write_eq (e : Nat) (h : e < 21) : (stT e).write 8 (((e + 1 : Nat) : Int) % 2) (supT (e + 1)).packed = (0, stT (e + 1)) := Prod.ext (turn_write e h) rfl
theorem write_eq' (m : Nat) (h : m < 22) (h1 : 1 ≤ m) : (stT (m - 1)).write 8 ((m : Int) % 2) (supT m).packed = (0, stT m) := by
  obtain ⟨e, rfl⟩ : ∃ e, m = e + 1 := ⟨m - 1, by omega⟩
  exact write_eq e (by omega)
theorem read_now (s : DS) (j : Int) (h : 0 ≤ j ∧ j < 8) : s.read 8 j = s.now.getD j.toNat [] := by
  unfold DS.read
  rw [if_pos (by simp [isB]; omega)]
theorem rot_read (s : DS) (h : s.ok 8) (i j p x : Int) (hi : 0 ≤ i ∧ i < 2) (hj : 0 ≤ j ∧ j < 2) (hp : 0 ≤ p ∧ p < 64) (hx : x ≠ 0) :
    (s.rot 8 i p x).read 8 j = if i = j then (s.read 8 i).set p.toNat (bits .xor .u8 (rd (s.read 8 i) p) x) else s.read 8 j := by
  have e1 : DS.rots 8 i p x = true := by simp [DS.rots, isB, hx]; omega
  have hl : s.now.length = 8 := h.now.1
  rw [read_now _ j (by omega), read_now _ i (by omega), read_now _ j (by omega)]
  unfold DS.rot
  rw [if_pos e1]
  simp only [flipAt]
  by_cases he : i = j
  · subst he
    rw [if_pos rfl]
    simp only [List.getD, List.getElem?_set_self (show i.toNat < s.now.length by omega), Option.getD_some]
    congr 2
  · rw [if_neg he]
    simp only [List.getD]
    rw [List.getElem?_set_ne (by omega)]
theorem rot_live (s : DS) (i p x : Int) : (s.rot 8 i p x).dead = s.dead ∧ (s.rot 8 i p x).lit = s.lit := by
  unfold DS.rot
  split <;> exact ⟨rfl, rfl⟩
theorem pick_def (l : Nat → List Int) : pick l = (if pickC (l 1) 1 (if pickC (l 0) 0 Sup.none = true then unSup (l 0) else Sup.none) = true then unSup (l 1) else (if pickC (l 0) 0 Sup.none = true then unSup (l 0) else Sup.none),
    pickC (l 0) 0 Sup.none || pickC (l 1) 1 (if pickC (l 0) 0 Sup.none = true then unSup (l 0) else Sup.none), allZ (l 0) && !(pickC (l 0) 0 Sup.none || pickC (l 1) 1 (if pickC (l 0) 0 Sup.none = true then unSup (l 0) else Sup.none))) := by
  rfl
theorem unSup_of {s : Sup} (h : s.may = true) : unSup s.packed = s := by
  unfold unSup
  rw [if_pos (isSup_packed s h), supOf_packed s h]
theorem pickC_no {l : List Int} (h : isSup l = false) (k : Nat) (p : Sup) : pickC l k p = false := by simp [pickC, h]
theorem pickC_yes {t : Sup} (h : t.may = true) (k : Nat) (hk : t.ep % 2 = k) (hp : 0 < t.ep) : pickC t.packed k Sup.none = true := by
  unfold pickC
  rw [isSup_packed t h, unSup_of h]
  simp [hk, Sup.none, hp]
theorem pick_0 {l : Nat → List Int} {t : Sup} (h : isSup (l 0) = false) (h1 : l 1 = t.packed) (hm : t.may = true) (hk : t.ep % 2 = 1) (hp : 0 < t.ep) : pick l = (t, true, false) := by
  rw [pick_def, pickC_no h]
  simp only [Bool.false_eq_true, if_false, Bool.false_or]
  rw [h1, pickC_yes hm 1 hk hp, unSup_of hm]
  simp
theorem pick_1 {l : Nat → List Int} {t : Sup} (h : isSup (l 1) = false) (h1 : l 0 = t.packed) (hm : t.may = true) (hk : t.ep % 2 = 0) (hp : 0 < t.ep) : pick l = (t, true, false) := by
  rw [pick_def, pickC_no h, h1, pickC_yes hm 0 hk hp, unSup_of hm]
  simp
theorem pick_none {l : Nat → List Int} (h : isSup (l 0) = false) (h1 : isSup (l 1) = false) (hz : allZ (l 0) = false) : pick l = (Sup.none, false, false) := by
  rw [pick_def, pickC_no h, pickC_no h1, hz]
  simp
theorem packed_45 (s : Sup) : rd s.packed 4 = 102 ∧ rd s.packed 5 = 108 := by
  have h0 := rd_drop s.packed 4 0
  have h1 := rd_drop s.packed 4 1
  rw [packed_drop4] at h0 h1
  exact ⟨h0.symm, h1.symm⟩
theorem allZ_set (s : Sup) (p : Nat) (z : Int) : allZ (s.packed.set p z) = false := by
  rw [Bool.eq_false_iff]
  intro h
  unfold allZ at h
  rw [List.all_eq_true] at h
  have hl := packed_length s
  have h45 := packed_45 s
  by_cases hp : p = 4
  · have hm : rd s.packed 5 ∈ s.packed.set p z := by
      have : (s.packed.set p z)[5]? = s.packed[5]? := List.getElem?_set_ne (by omega)
      apply List.mem_of_getElem? (i := 5)
      rw [this]
      simp [rd, List.getD, hl]
    have := h _ hm
    rw [h45.2] at this
    cases this
  · have hm : rd s.packed 4 ∈ s.packed.set p z := by
      have : (s.packed.set p z)[4]? = s.packed[4]? := List.getElem?_set_ne (by omega)
      apply List.mem_of_getElem? (i := 4)
      rw [this]
      simp [rd, List.getD, hl]
    have := h _ hm
    rw [h45.1] at this
    cases this
theorem spoilt_no (s : Sup) (h : s.may = true) (p x : Int) (hp : 0 ≤ p ∧ p < 64) (hx : 0 ≤ x ∧ x < 256) (h0 : x ≠ 0) : isSup (s.packed.set p.toNat (bits .xor .u8 (rd s.packed p) x)) = false := by
  have hr := (packed_byt s).at_ p.toNat (by rw [packed_length]; omega)
  rw [show ((p.toNat : Nat) : Int) = p from by omega] at hr
  have hq := xor8 (rd s.packed p) x hr hx
  rw [isSup_set' s h p.toNat (by omega) _ hq.1, show ((p.toNat : Nat) : Int) = p from by omega]
  simp [hq.2, h0]
theorem rot1_pick (k : Nat) (hk : k < 20) (hok : (stT (k + 2)).ok 8) (i p x : Int) (hi : i = (k : Int) % 2) (hp : 0 ≤ p ∧ p < 64) (hx : 0 ≤ x ∧ x < 256) (h0 : x ≠ 0) :
    (pick fun j => ((stT (k + 2)).rot 8 i p x).read 8 j) = (supT (k + 1), true, false) := by
  obtain ⟨r0, r1⟩ := turn_read (k + 2) (by omega) (by omega)
  rw [show ((k + 2 : Nat) : Int) % 2 = i from by omega] at r0 r1
  rw [show k + 2 - 1 = k + 1 from rfl] at r1
  have m1 := turn_may (k + 1) (by omega)
  have m2 := turn_may (k + 2) (by omega)
  have hep : (supT (k + 1)).ep = ((k + 1 : Nat) : Int) := rfl
  have e0 := rot_read _ hok i 0 p x (by omega) (by omega) hp h0
  have e1 := rot_read _ hok i 1 p x (by omega) (by omega) hp h0
  rw [r0] at e0 e1
  by_cases hi0 : i = 0
  · subst hi0
    rw [if_pos rfl] at e0
    rw [if_neg (by omega)] at e1
    rw [show (1 : Int) - 0 = 1 from rfl] at r1
    refine pick_0 ?_ (e1.trans r1) m1 (by rw [hep]; omega) (by rw [hep]; omega)
    show isSup (((stT (k + 2)).rot 8 0 p x).read 8 0) = false
    rw [e0]
    exact spoilt_no _ m2 p x hp hx h0
  · obtain rfl : i = 1 := by omega
    rw [if_neg (by omega)] at e0
    rw [if_pos rfl] at e1
    rw [show (1 : Int) - 1 = 0 from rfl] at r1
    refine pick_1 ?_ (e0.trans r1) m1 (by rw [hep]; omega) (by rw [hep]; omega)
    show isSup (((stT (k + 2)).rot 8 1 p x).read 8 1) = false
    rw [e1]
    exact spoilt_no _ m2 p x hp hx h0
theorem rot2_pick (k : Nat) (hk : k < 20) (hok : (stT (k + 2)).ok 8) (i p x : Int) (hok1 : ((stT (k + 2)).rot 8 i p x).ok 8) (hi : i = (k : Int) % 2) (hp : 0 ≤ p ∧ p < 64) (hx : 0 ≤ x ∧ x < 256) (h0 : x ≠ 0) :
    (pick fun j => (((stT (k + 2)).rot 8 i p x).rot 8 (1 - i) p x).read 8 j) = (Sup.none, false, false) := by
  obtain ⟨r0, r1⟩ := turn_read (k + 2) (by omega) (by omega)
  rw [show ((k + 2 : Nat) : Int) % 2 = i from by omega] at r0 r1
  rw [show k + 2 - 1 = k + 1 from rfl] at r1
  have m1 := turn_may (k + 1) (by omega)
  have m2 := turn_may (k + 2) (by omega)
  have e0 := rot_read _ hok i i p x (by omega) (by omega) hp h0
  have e1 := rot_read _ hok i (1 - i) p x (by omega) (by omega) hp h0
  have f0 := rot_read _ hok1 (1 - i) i p x (by omega) (by omega) hp h0
  have f1 := rot_read _ hok1 (1 - i) (1 - i) p x (by omega) (by omega) hp h0
  rw [if_pos rfl, r0] at e0
  rw [if_neg (by omega), r1] at e1
  rw [if_neg (by omega), e0] at f0
  rw [if_pos rfl, e1] at f1
  have n0 := spoilt_no _ m2 p x hp hx h0
  have n1 := spoilt_no _ m1 p x hp hx h0
  rw [← f0] at n0
  rw [← f1] at n1
  have z0 := allZ_set (supT (k + 2)) p.toNat (bits .xor .u8 (rd (supT (k + 2)).packed p) x)
  have z1 := allZ_set (supT (k + 1)) p.toNat (bits .xor .u8 (rd (supT (k + 1)).packed p) x)
  rw [← f0] at z0
  rw [← f1] at z1
  by_cases hi0 : i = 0
  · subst hi0
    exact pick_none n0 n1 z0
  · obtain rfl : i = 1 := by omega
    exact pick_none n1 n0 z1
theorem write_0 (s : DS) (h : s.ok 8) (hd : s.dead = false) (hl : s.lit = false) (b : List Int) (hb : b.length = 64) : (s.write 8 0 b).1 = 0 ∧ (s.write 8 0 b).2.read 8 0 = b := by
  have hact : s.act = true := by simp [DS.act, hl]
  have hw : s.write 8 0 b = (0, s.acted.put 0 b) := by
    unfold DS.write
    rw [if_neg (by simp [hd]), if_neg (by simp [isB, hb]), if_neg (by simp [hact])]
    rfl
  rw [hw]
  refine ⟨rfl, ?_⟩
  have hn : s.now.length = 8 := h.now.1
  rw [read_now _ 0 (by omega)]
  have hnow : s.acted.now = s.now := by unfold DS.acted; split <;> rfl
  simp [DS.put, hnow, List.getD, hn]
end Go.Proofs.Ytodhgohbcjnjfaa
