/- A block that is known whole: bytes; a row copied into one. -/
import Derived.Test.YtodhgohbcjnjfaaBase
import Derived.Laws.CopyOwn
namespace Go.Proofs.Ytodhgohbcjnjfaa
open Go.RowKit Go.Proofs.YtodhgohbcjnjfaaW.PrintWords Go.Proofs.YtodhgohbcjnjfaaW.PrintLast Go.Proofs.YtodhgohbcjnjfaaW.PrintMore
set_option linter.unusedVariables false
set_option linter.unusedSimpArgs false
/-- A block that is known whole: bytes. -/
def Blb (w : World) (g : Nat) (L : List Int) : Prop := w.heap[g]? = some (.cells (nums .u8 L).toArray 5 (0, 0))
theorem Blb.lt {w : World} {g : Nat} {L : List Int} (h : Blb w g L) : g < w.heap.size := blk_lt h
theorem Blb.below {w w1 : World} {B g : Nat} {L : List Int} (h : Blb w g L) (hb : Below B w w1) (hg : g < B) : Blb w1 g L := (hb.block g hg).trans h
theorem Blb.cell {w : World} {g : Nat} {L : List Int} (h : Blb w g L) (k : Nat) (hk : k < L.length) : w.cell? ⟨g, k, none⟩ = some (.int .u8 (rd L k)) := by
  rw [blk_cell h]
  simp [nums, rd, List.getD, hk]
theorem Blb.frozen {w : World} {g : Nat} {L : List Int} (h : Blb w g L) (k : Nat) : w.frozen? ⟨g, k, none⟩ = false := blk_frozen h k
theorem Blb.put {w : World} {g : Nat} {L : List Int} (h : Blb w g L) (k : Nat) (x : Int) : Blb (w.setCell ⟨g, k, none⟩ (.int .u8 x)) g (L.set k x) := by
  have := blk_set h k (.int .u8 x)
  unfold Blb
  rw [this]
  simp [nums, List.map_set]
theorem Blb.drewN {w : World} {g : Nat} {L : List Int} (h : Blb w g L) (n : Nat) : Blb (w.drewN n) g L := h
theorem Blb.reads {w : World} {g : Nat} {L : List Int} (h : Blb w g L) (n : Nat) (hn : n ≤ L.length) (hm : n ≤ 9223372036854775807) : RB w (some ⟨g, 0, none⟩) n (L.take n) := by
  refine ⟨by rw [List.length_take]; omega, hm, fun _ => ⟨_, rfl, fun j p hj => ?_⟩⟩
  refine ⟨[.int .u8 p], rfl, rfl, fun i u hu => ?_⟩
  cases i with
  | succ i => simp at hu
  | zero =>
    simp at hu
    subst hu
    rw [List.getElem?_take] at hj
    split at hj
    · rw [add_plain, blk_cell h]
      show (nums .u8 L).toArray[j * 1 + 0]? = _
      simp [nums, hj]
    · cases hj
theorem made_zero (n : Nat) : madeCells (Value.int .u8 0).cells (n * 1) = (nums .u8 (List.replicate n 0)).toArray := by
  apply Array.toList_inj.1
  rw [show (Value.int .u8 0).cells = #[Value.int .u8 0] from rfl, toList_madeCells_one]
  simp [nums]
theorem cellsT_b : (Try.prog.info? 5).map (·.size) = some 1 := by kernel_rfl
theorem nums_1c (k : IntKind) (l : List Int) : ∀ v ∈ nums k l, v.oneCell' = true := fun v hv => by
  simp only [nums, List.mem_map] at hv
  obtain ⟨_, _, rfl⟩ := hv
  rfl
theorem RB_cells {w : World} {A : Option Addr} {n : Nat} {l : List Int} (hr : RB w A n l) : 0 < (nums .u8 l).length → ∃ ad, A = some ad ∧ ∀ j v, (nums .u8 l)[j]? = some v → w.cell? (ad.add j) = some v := fun hp => by
  have hl := Kd.C_len hr
  obtain ⟨ad, e, _⟩ := hr.2.2 (by simpa [nums, hl] using hp)
  refine ⟨ad, e, fun j v hj => ?_⟩
  have hjl : j < l.length := by
    have := (List.getElem?_eq_some_iff.1 hj).1
    simpa [nums] using this
  obtain ⟨ad', e', hc⟩ := Kd.at_int hr (j : Int) (by omega) (by omega)
  rw [e] at e'
  cases e'
  rw [Int.toNat_natCast] at hc
  rw [hc]
  simp [nums, rd, List.getD, hjl] at hj ⊢
  exact hj
theorem OB_of_blb {w : World} {base g : Nat} {L : List Int} (h : Blb w g L) (hb : base ≤ g) (hm : L.length ≤ 9223372036854775807) : OB w base (.slice (some ⟨g, 0, none⟩) L.length L.length) L :=
  Kd.R_of_own (show w.ownsRow base 5 1 _ L.length (nums .u8 L) from ⟨by simp [nums], .inr ⟨g, L.length, _, rfl, hb, h, Nat.le_refl _, by simpa [maxLen] using hm, by simp [nums], by rw [show (nums .u8 L).toArray.toList = nums .u8 L from rfl]; exact List.take_of_length_le (by simp [nums])⟩⟩) (fun _ _ => trivial)
/-- copy(dst, src): dst the head of a block that is known whole. -/
theorem wp_copyb {ops : Array Oper} {rest : List Oper} {o : Oper} {a : Act} {Q : Exit → Act → World → Prop} {w0 W : World} {B : Nat} (hgd : o.guard = none) (d s : Operand)
    (ho : o.op = .call { callee := .builtin .copy, args := #[d, s], argTypes := #[24, 24] }) (g dn dc : Nat) (L : List Int) (hd : a.eval d = .slice (some ⟨g, 0, none⟩) dn dc)
    (A : Option Addr) (n c : Nat) (l : List Int) (hs : a.eval s = .slice A n c) (hg : Blb W g L) (hr : RB W A n l) (hn : n ≤ dn) (hL : n ≤ L.length) (hb : Below B w0 W) (hBg : B ≤ g)
    (h : ∀ w1, Blb w1 g (l ++ L.drop n) → Below B w0 w1 → wpList Try.prog ops Q rest (a.put o.dst (goInt (nums .u8 l).length)) w1) : wpList Try.prog ops Q (o :: rest) a W := by
  have hl : l.length = n := Kd.C_len hr
  refine wpList_copy_splice hgd d s 24 24 ho 5 Try.underlying24 cellsT_b (some ⟨g, 0, none⟩) A dn dc n c hd hs g 0 (nums .u8 L) 5 hg (nums .u8 l) (by rw [nums_length, hl]; exact (Nat.min_eq_left hn).symm) (fun hp => ⟨rfl, RB_cells hr hp⟩) (by rw [nums_length, nums_length]; omega) (nums_1c _ _) B w0 hb hBg ?_
  intro w1 hh hb1
  refine h w1 ?_ hb1
  have := hh.out
  unfold Blb
  rw [this]
  congr 2
  simp [splice, nums, hl]
end Go.Proofs.Ytodhgohbcjnjfaa
