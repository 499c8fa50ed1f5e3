/- Base of this seat's hand-made contracts: imports, and short words over the printed words library. -/
import Derived.Test.YtolecdgpfflijaaDoorProg
import Derived.Below
import Derived.Deep.Draws
import Derived.Deep.AppendLies
import Derived.Maps.AppendAt
import Derived.OwnWalk
import Derived.Laws.BytesArg
import Derived.Laws.MakeOwn
import Derived.Laws.OwnMore
import Derived.Deep.OwnRows
import Derived.Tactics
import Derived.Lib.ConvBytes
import Derived.Laws.Slices
import Derived.WalkKit
import Derived.KernelRfl
import Derived.RowKit3
import Derived.Deep.LoopGhost
import Derived.Deep.QuietTactic
import Derived.BigQuiet
import Derived.WideLaws
import Derived.Deep.DeepCutAuto
import Derived.Deep.CutBlock
import Derived.Deep.RegionHeld3
import Derived.Laws.Rows
import Derived.Lib.AppendStr
import Derived.ArgAppend
import Derived.Laws.IdiomCopy
import Derived.OrdersHeld
import Derived.Laws.BitsLemmas
import Derived.RowKit
import Derived.WalkSpells
import Derived.OpenShut
import Derived.Lib.Hide
import Derived.Lib.Bytes
import Derived.Outline
import Derived.Test.YtolecdgpfflijaaDoorWWords
import Derived.Test.YtolecdgpfflijaaDoorWRepsOne
import Derived.Test.YtolecdgpfflijaaDoorWZeros
import Derived.Test.YtolecdgpfflijaaDoorWArr
import Derived.Test.YtolecdgpfflijaaDoorWAt
import Derived.Test.YtolecdgpfflijaaDoorWKept
import Derived.Test.YtolecdgpfflijaaDoorWShare
import Derived.Test.YtolecdgpfflijaaDoorWEqStruct
import Derived.Test.YtolecdgpfflijaaDoorWLast
import Derived.Test.YtolecdgpfflijaaDoorWMore
namespace Go.Proofs.YtolecdgpfflijaaDoor
open Go.RowKit Go.Proofs.YtolecdgpfflijaaDoorW.PrintWords Go.Proofs.YtolecdgpfflijaaDoorW.PrintLast Go.Proofs.YtolecdgpfflijaaDoorW.PrintMore
set_option linter.unusedSimpArgs false
set_option linter.unusedVariables false
theorem infoB : (Tryd.prog.info? 5).map (fun i => (i.zero, i.size, i.bytes)) = some (some (.int .u8 0), 1, 1) := by kernel_rfl
/-- A row of bytes that is read. -/
abbrev RB (w : World) (A : Option Addr) (n : Nat) (l : List Int) : Prop := Kd.C (Kd.int .u8) w A n l
/-- A row of bytes of one's own, made from block base on. -/
abbrev OB (w : World) (base : Nat) (v : Value) (l : List Int) : Prop := Kd.R (Kd.int .u8) 5 w base (fun _ => True) v l
/-- A row just made, all of whose elements can be read, is read. -/
theorem C_new {α : Type} (d : Kd α) {W : World} {e : TypeId} {fz : Nat × Nat} {xs : List α} {inner : List Value} (hrep : Reps (d.K W) d.sz xs inner) (hm : xs.length ≤ 9223372036854775807) :
    Kd.C d (W.alloc (.cells inner.toArray e fz)) (some ⟨W.heap.size, 0, none⟩) xs.length xs := by
  refine ⟨rfl, hm, fun _ => ⟨_, rfl, fun j p hj => ?_⟩⟩
  have hK := d.K_below (below_alloc (Below.refl _ W) (.cells inner.toArray e fz)) (hrep.2 j p hj)
  refine ⟨_, d.K_len hK, hK, fun i u hu => ?_⟩
  rw [List.getElem?_take] at hu
  split at hu
  · rw [List.getElem?_drop] at hu
    rw [add_plain, cell_of_row _ _ _ inner.toArray e fz (heap_alloc_new W _)]
    simpa using hu
  · cases hu
/-- A literal's row, just made. -/
theorem R_new_lit {α : Type} (d : Kd α) {W : World} (base : Nat) (e : TypeId) {xs : List α} {inner : List Value} (hrep : Reps (d.M W base (fun _ => True)) d.sz xs inner) (hbase : base ≤ W.heap.size) (hm : xs.length ≤ 9223372036854775807) :
    d.R e (W.alloc (.cells inner.toArray e)) base (fun _ => True) (.slice (some ⟨W.heap.size, 0, none⟩) xs.length xs.length) xs := by
  refine ⟨fun _ _ => trivial, inner, ?_, ?_⟩
  · have h2 := World.ownsRow_lit (base := base) (e := e) (size := d.sz) W inner.toArray xs.length hbase (by simpa [maxLen] using hm) (by simpa using hrep.1)
    simpa using h2
  · refine hrep.imp_ (fun p c hp => d.M_mono (fun k hk => ⟨trivial, fun he => ?_⟩) (Kd.M_below (d.M_bound hp) (below_alloc (Below.refl _ _) _)))
    have h3 : k = W.heap.size := by simpa [Value.ownBlock] using he
    have := hk.2.2.1
    omega
theorem reps_nums (k : IntKind) (W : World) (base : Nat) (ok : Nat → Prop) (xs : List Int) : Reps ((Kd.int k).M W base ok) 1 xs (nums k xs) := by
  refine ⟨by simp [nums], fun j p hj => ?_⟩
  show _ = [Value.int k p]
  obtain ⟨hl, rfl⟩ := List.getElem?_eq_some_iff.1 hj
  rw [List.take_one, Nat.mul_one, List.head?_drop]
  simp [nums, hl]
theorem OB_new (W : World) (base : Nat) (xs : List Int) (hbase : base ≤ W.heap.size) (hm : xs.length ≤ 9223372036854775807) :
    OB (W.alloc (.cells (nums .u8 xs).toArray 5)) base (.slice (some ⟨W.heap.size, 0, none⟩) xs.length xs.length) xs :=
  R_new_lit (Kd.int .u8) base _ (reps_nums .u8 W base _ xs) hbase hm
section
variable {P : Program} {α : Type} {k : Kd α} {w : World} {A : Option Addr} {xs : List α} {c : Nat}
/-- xs[m:] -/
theorem cut_from (t e : TypeId) {z : Option Value} {by_ : Nat} (ht : P.underlying t = some (.slice e)) (hi : (P.info? e).map (fun i => (i.zero, i.size, i.bytes)) = some (z, k.sz, by_))
    (h : k.C w A xs.length xs) (hc : xs.length ≤ c) (m : Nat) (mi : Int) (hmi : mi = m) (hm : m ≤ xs.length) :
    ∃ A' c', (∀ (kk : IntKind) (W : World), (Instr.slice t (.slice A xs.length c) (some (.int kk mi)) none none).run P W = .ok (.slice A' (xs.length - m) c') W) ∧ xs.length - m ≤ c' ∧ k.C w A' (xs.drop m).length (xs.drop m) := by
  subst hmi
  obtain ⟨i0, hi0, hz⟩ := Option.map_eq_some_iff.1 hi
  simp only [Prod.mk.injEq] at hz
  have hel : P.elem t = e := by simp [Program.elem, ht]
  have hu : P.underlying t = some (.slice (P.elem t)) := by rw [hel]; exact ht
  refine ⟨_, c - m, fun kk W => ?_, by omega, Kd.C_drop h hm hc⟩
  rw [run_slice_l W t A xs.length c hu kk m (by omega) (by omega), hel]
  simp [sizeOf, typeInfo, hi0, hz.2.1, sliced, Result.andThen]
/-- xs[:m] -/
theorem cut_to (t e : TypeId) {z : Option Value} {by_ : Nat} (ht : P.underlying t = some (.slice e)) (hi : (P.info? e).map (fun i => (i.zero, i.size, i.bytes)) = some (z, k.sz, by_))
    (h : k.C w A xs.length xs) (hc : xs.length ≤ c) (m : Nat) (mi : Int) (hmi : mi = m) (hm : m ≤ xs.length) :
    (∀ (kk : IntKind) (W : World), (Instr.slice t (.slice A xs.length c) none (some (.int kk mi)) none).run P W = .ok (.slice A m c) W) ∧ k.C w A (xs.take m).length (xs.take m) := by
  subst hmi
  obtain ⟨i0, hi0, hz⟩ := Option.map_eq_some_iff.1 hi
  simp only [Prod.mk.injEq] at hz
  have hel : P.elem t = e := by simp [Program.elem, ht]
  have hu : P.underlying t = some (.slice (P.elem t)) := by rw [hel]; exact ht
  refine ⟨fun kk W => ?_, Kd.C_take h hm⟩
  rw [run_slice_h W t A xs.length c hu kk m (by omega) (by omega), hel]
  cases A <;> simp [sizeOf, typeInfo, hi0, sliced, Result.andThen, Addr.add]
end
/-- All are bytes. -/
def Byt (l : List Int) : Prop := ∀ x ∈ l, 0 ≤ x ∧ x < 256
theorem take_snocI (l : List Int) (k : Nat) (h : k < l.length) : l.take (k + 1) = l.take k ++ [rd l k] := by
  rw [List.take_succ_eq_append_getElem h]
  simp [rd, List.getD, h]
theorem rd_mem (l : List Int) (k : Nat) (h : k < l.length) : rd l k ∈ l := by
  simp [rd, List.getD, h]
theorem Byt.at_ {l : List Int} (h : Byt l) (k : Nat) (hk : k < l.length) : 0 ≤ rd l k ∧ rd l k < 256 := h _ (rd_mem l k hk)
theorem Byt.take {l : List Int} (h : Byt l) (k : Nat) : Byt (l.take k) := fun x hx => h x (List.mem_of_mem_take hx)
theorem Byt.drop {l : List Int} (h : Byt l) (k : Nat) : Byt (l.drop k) := fun x hx => h x (List.mem_of_mem_drop hx)
theorem Byt.append {l m : List Int} (h : Byt l) (h' : Byt m) : Byt (l ++ m) := fun x hx => by
  rcases List.mem_append.1 hx with hx | hx
  · exact h x hx
  · exact h' x hx
theorem strOfNums_inj {l m : List Int} (hl : Byt l) (hm : Byt m) : ((strOfNums l).toList == (strOfNums m).toList) = decide (l = m) := by
  have key : ∀ (l m : List Int), Byt l → Byt m → (l.map fun n => UInt8.ofNat n.toNat) = (m.map fun n => UInt8.ofNat n.toNat) → l = m := by
    intro l
    induction l with
    | nil => intro m _ _ h; cases m with
      | nil => rfl
      | cons y m => simp at h
    | cons x l ih => intro m hl hm h; cases m with
      | nil => simp at h
      | cons y m =>
        simp only [List.map_cons, List.cons.injEq] at h
        have hx := hl x (by simp)
        have hy := hm y (by simp)
        have h1 := congrArg UInt8.toNat h.1
        simp only [UInt8.toNat_ofNat'] at h1
        have : x = y := by omega
        subst this
        rw [ih m (fun z hz => hl z (by simp [hz])) (fun z hz => hm z (by simp [hz])) h.2]
  rw [Bool.eq_iff_iff, beq_iff_eq, decide_eq_true_iff]
  constructor
  · intro h
    rw [Lib.strOfNums_toList, Lib.strOfNums_toList] at h
    exact key l m hl hm h
  · rintro rfl
    rfl
section
variable {ops : Array Oper} {rest : List Oper} {o : Oper} {a : Act} {Q : Exit → Act → World → Prop}
/-- append(v, ys...), ys a literal's row, just made. -/
theorem wp_appendb {w0 W : World} {base : Nat} (v : Value) (l ys : List Int) {cy : Nat} (hgd : o.guard = none) (s y : Operand)
    (ho : o.op = .call { callee := .builtin .append, args := #[s, y], argTypes := #[26, 26] })
    (hs : a.eval s = v) (hy : a.eval y = .slice (some ⟨W.heap.size, 0, none⟩) ys.length cy) (HO : OB W base v l) (HB : Below base w0 W) (hbase : base ≤ W.heap.size) (hl : l.length + ys.length ≤ 140737488355328)
    (h : ∀ v1 w1, OB w1 base v1 (l ++ ys) → Below base w0 w1 → (v1.ownBlock = v.ownBlock ∨ ∃ b, v1.ownBlock = some b ∧ W.heap.size ≤ b) → wpList Tryd.prog ops Q rest (a.put o.dst v1) w1) :
    wpList Tryd.prog ops Q (o :: rest) a (W.alloc (.cells (nums .u8 ys).toArray 5)) := by
  refine Kd.R_append_rows (Kd.int .u8) (Rr := (Kd.int .u8).K (W.alloc (.cells (nums .u8 ys).toArray 5))) (w0 := w0) base hgd s y 26 5 (.int .u8 0) 1 ho Tryd.underlying26 infoB rfl (by decide) (by decide) v l ys _ ys.length cy (fun _ => True) (fun k => some k ≠ v.ownBlock) hs hy
    (Kd.R_alloc HO _) (C_new (Kd.int .u8) (reps_nums .u8 W 0 (fun _ => True) ys) (by omega)) (fun _ _ h => h) (fun k hk => ⟨trivial, hk⟩) (fun _ _ => trivial) (HB.alloc hbase _) (by simp; omega) (by omega) ?_
  intro v1 w1 ho1 hb1 hg1 hn1
  refine h v1 w1 ho1 hb1 ?_
  rcases hn1 with hn1 | ⟨b, hn1, hb⟩
  · exact .inl hn1
  · exact .inr ⟨b, hn1, by simp at hb; omega⟩
end
theorem byt_of_wf {l : List Int} (h : ∀ x ∈ l, (Lit.int .u8 x).wf = true) : Byt l := fun x hx => by
  have := bounds_u8 (h x hx)
  omega
theorem OB_reads {w : World} {base : Nat} {v : Value} {l : List Int} (h : OB w base v l) : ∃ A c, v = .slice A l.length c ∧ l.length ≤ c ∧ RB w A l.length l := Kd.R_reads h
end Go.Proofs.YtolecdgpfflijaaDoor
