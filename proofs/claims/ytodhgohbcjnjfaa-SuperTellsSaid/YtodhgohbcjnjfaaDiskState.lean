/- What a disk is in memory: one block for the struct, one for each of its three rows; and what may change when a disk is written. -/
import Derived.Test.YtodhgohbcjnjfaaLend
namespace Go.Proofs.Ytodhgohbcjnjfaa
open Go.RowKit Go.Proofs.YtodhgohbcjnjfaaW.PrintWords Go.Proofs.YtodhgohbcjnjfaaW.PrintLast Go.Proofs.YtodhgohbcjnjfaaW.PrintMore
set_option linter.unusedVariables false
set_option linter.unusedSimpArgs false
/-- All but the blocks of S stays. -/
structure But (S : Nat → Prop) (w w' : World) : Prop where
  os : w'.os = w.os
  tape : w'.tape = w.tape
  output : w'.output = w.output
  size : w.heap.size ≤ w'.heap.size
  block : ∀ i, i < w.heap.size → ¬ S i → w'.heap[i]? = w.heap[i]?
theorem But.refl (S : Nat → Prop) (w : World) : But S w w := ⟨rfl, rfl, rfl, Nat.le_refl _, fun _ _ _ => rfl⟩
theorem But.trans {S : Nat → Prop} {w w1 w2 : World} (h : But S w w1) (k : But S w1 w2) : But S w w2 :=
  ⟨k.os.trans h.os, k.tape.trans h.tape, k.output.trans h.output, Nat.le_trans h.size k.size, fun i hi hs => (k.block i (Nat.lt_of_lt_of_le hi h.size) hs).trans (h.block i hi hs)⟩
theorem But.of_below {S : Nat → Prop} {w w1 : World} (h : Below w.heap.size w w1) : But S w w1 := ⟨h.os, h.tape, h.output, h.size, fun i hi _ => h.block i hi⟩
theorem But.set {S : Nat → Prop} {w w1 : World} (h : But S w w1) {p : Addr} (hp : S p.block) (v : Value) : But S w (w1.setCell p v) := by
  have hb := (Below.refl p.block w1).setCell (p := p) (Nat.le_refl _) v
  refine ⟨hb.os.trans h.os, hb.tape.trans h.tape, hb.output.trans h.output, ?_, fun i hi hs => ?_⟩
  · exact Nat.le_trans h.size (by simp)
  · rw [Below.heap_setCell w1 p v i (fun e => hs (e ▸ hp))]
    exact h.block i hi hs
theorem But.drewN {S : Nat → Prop} {w w1 : World} (h : But S w w1) (n : Nat) : But S w (w1.drewN n) := ⟨h.os, h.tape, h.output, h.size, h.block⟩
theorem But.drew {S : Nat → Prop} {w w1 : World} (h : But S w w1) : But S w w1.drew := ⟨h.os, h.tape, h.output, h.size, h.block⟩
theorem But.below {S : Nat → Prop} {w w1 : World} {B : Nat} (h : But S w w1) (hS : ∀ i, S i → B ≤ i) (hB : B ≤ w.heap.size) : Below B w w1 :=
  ⟨h.os, h.tape, h.output, h.size, fun i hi => h.block i (by omega) (fun hs => by have := hS i hs; omega)⟩
theorem But.mono {S T : Nat → Prop} {w w1 : World} (h : But S w w1) (hST : ∀ i, S i → T i) : But T w w1 := ⟨h.os, h.tape, h.output, h.size, fun i hi hs => h.block i hi (fun k => hs (hST i k))⟩
theorem add_blk (ad : Addr) (n : Nat) : (ad.add n).block = ad.block := by unfold Addr.add; split <;> rfl
theorem RB_but {S : Nat → Prop} {w w1 : World} {A : Option Addr} {n : Nat} {l : List Int} (h : RB w A n l) (hb : But S w w1) (hA : ∀ ad, A = some ad → ¬ S ad.block) : RB w1 A n l := by
  refine ⟨h.1, h.2.1, fun hp => ?_⟩
  obtain ⟨ad, e, hc⟩ := h.2.2 hp
  refine ⟨ad, e, fun j p hj => ?_⟩
  obtain ⟨cs, h1', h2', h3'⟩ := hc j p hj
  refine ⟨cs, h1', h2', fun q u hu => ?_⟩
  have hcell := h3' q u hu
  have hlt := World.block_lt_of_cell? w _ hcell
  rw [add_blk] at hlt
  exact (World.cell?_of_block (by rw [add_blk]; exact hb.block _ hlt (hA ad e))).trans hcell
theorem RI_but {S : Nat → Prop} {kk : IntKind} {w w1 : World} {A : Option Addr} {n : Nat} {l : List Int} (h : Kd.C (Kd.int kk) w A n l) (hb : But S w w1) (hA : ∀ ad, A = some ad → ¬ S ad.block) : Kd.C (Kd.int kk) w1 A n l := by
  refine ⟨h.1, h.2.1, fun hp => ?_⟩
  obtain ⟨ad, e, hc⟩ := h.2.2 hp
  refine ⟨ad, e, fun j p hj => ?_⟩
  obtain ⟨cs, h1', h2', h3'⟩ := hc j p hj
  refine ⟨cs, h1', h2', fun q u hu => ?_⟩
  have hcell := h3' q u hu
  have hlt := World.block_lt_of_cell? w _ hcell
  rw [add_blk] at hlt
  exact (World.cell?_of_block (by rw [add_blk]; exact hb.block _ hlt (hA ad e))).trans hcell
/-- What a disk holds. -/
structure DS where
  now : List (List Int)
  old : List (List Int)
  pend : List Bool
  dead : Bool
  lit : Bool
  left : Int
/-- Rows of sectors. -/
def Secs (n : Nat) (L : List (List Int)) : Prop := L.length = n ∧ ∀ x ∈ L, x.length = 64 ∧ Byt x
structure DS.ok (s : DS) (n : Nat) : Prop where
  now : Secs n s.now
  old : Secs n s.old
  pend : s.pend.length = n
  small : n ≤ 1024
  left0 : 0 ≤ s.left
  left1 : s.left ≤ 9223372036854775807
/-- Where a disk lies: its struct, its rows, their room, and what stands behind them there. -/
structure DA where
  d : Nat
  n : Nat
  o : Nat
  p : Nat
  cn : Nat
  co : Nat
  cp : Nat
  tn : List Value
  t_o : List Value
  tp : List Value
def DA.has (a : DA) (i : Nat) : Prop := i = a.d ∨ i = a.n ∨ i = a.o ∨ i = a.p
/-- A disk in memory. -/
structure Dsk (w : World) (a : DA) (N : Nat) (s : DS) : Prop where
  hd : w.heap[a.d]? = some (.cells #[.slice (some ⟨a.n, 0, none⟩) N a.cn, .slice (some ⟨a.o, 0, none⟩) N a.co, .slice (some ⟨a.p, 0, none⟩) N a.cp, .bool s.dead, .bool s.lit, .int .i64 s.left] 138 (0, 0))
  hn : w.heap[a.n]? = some (.cells (nums .u8 s.now.flatten ++ a.tn).toArray 140 (0, 0))
  ho : w.heap[a.o]? = some (.cells (nums .u8 s.old.flatten ++ a.t_o).toArray 140 (0, 0))
  hp : w.heap[a.p]? = some (.cells (bools s.pend ++ a.tp).toArray 4 (0, 0))
  hno : a.n ≠ a.o
  ok : s.ok N
section
variable {w w1 : World} {a : DA} {N : Nat} {s : DS}
theorem Dsk.dn (h : Dsk w a N s) : a.d ≠ a.n := blk_ne h.hd h.hn (by decide)
theorem Dsk.d_o (h : Dsk w a N s) : a.d ≠ a.o := blk_ne h.hd h.ho (by decide)
theorem Dsk.dp (h : Dsk w a N s) : a.d ≠ a.p := blk_ne h.hd h.hp (by decide)
theorem Dsk.np (h : Dsk w a N s) : a.n ≠ a.p := blk_ne h.hn h.hp (by decide)
theorem Dsk.op (h : Dsk w a N s) : a.o ≠ a.p := blk_ne h.ho h.hp (by decide)
theorem Dsk.lt (h : Dsk w a N s) (i : Nat) (hi : a.has i) : i < w.heap.size := by
  rcases hi with rfl | rfl | rfl | rfl
  · exact blk_lt h.hd
  · exact blk_lt h.hn
  · exact blk_lt h.ho
  · exact blk_lt h.hp
/-- What leaves a disk's blocks alone leaves the disk. -/
theorem Dsk.keep (h : Dsk w a N s) (hk : ∀ i, a.has i → w1.heap[i]? = w.heap[i]?) : Dsk w1 a N s :=
  ⟨(hk _ (.inl rfl)).trans h.hd, (hk _ (.inr (.inl rfl))).trans h.hn, (hk _ (.inr (.inr (.inl rfl)))).trans h.ho, (hk _ (.inr (.inr (.inr rfl)))).trans h.hp, h.hno, h.ok⟩
theorem Dsk.below {B : Nat} (h : Dsk w a N s) (hb : Below B w w1) (hB : ∀ i, a.has i → i < B) : Dsk w1 a N s := h.keep fun i hi => hb.block i (hB i hi)
theorem Dsk.after (h : Dsk w a N s) (hb : Below w.heap.size w w1) : Dsk w1 a N s := h.below hb h.lt
theorem Dsk.but {S : Nat → Prop} (h : Dsk w a N s) (hb : But S w w1) (hS : ∀ i, a.has i → ¬ S i) : Dsk w1 a N s := h.keep fun i hi => hb.block i (h.lt i hi) (hS i hi)
theorem Dsk.drewN (h : Dsk w a N s) (n : Nat) : Dsk (w.drewN n) a N s := ⟨h.hd, h.hn, h.ho, h.hp, h.hno, h.ok⟩
theorem Dsk.drew (h : Dsk w a N s) : Dsk w.drew a N s := ⟨h.hd, h.hn, h.ho, h.hp, h.hno, h.ok⟩
theorem Dsk.c0 (h : Dsk w a N s) : w.cell? ⟨a.d, 0, none⟩ = some (.slice (some ⟨a.n, 0, none⟩) N a.cn) := blk_cell h.hd 0
theorem Dsk.c1 (h : Dsk w a N s) : w.cell? ⟨a.d, 1, none⟩ = some (.slice (some ⟨a.o, 0, none⟩) N a.co) := blk_cell h.hd 1
theorem Dsk.c2 (h : Dsk w a N s) : w.cell? ⟨a.d, 2, none⟩ = some (.slice (some ⟨a.p, 0, none⟩) N a.cp) := blk_cell h.hd 2
theorem Dsk.c3 (h : Dsk w a N s) : w.cell? ⟨a.d, 3, none⟩ = some (.bool s.dead) := blk_cell h.hd 3
theorem Dsk.c4 (h : Dsk w a N s) : w.cell? ⟨a.d, 4, none⟩ = some (.bool s.lit) := blk_cell h.hd 4
theorem Dsk.c5 (h : Dsk w a N s) : w.cell? ⟨a.d, 5, none⟩ = some (.int .i64 s.left) := blk_cell h.hd 5
theorem Dsk.fz (h : Dsk w a N s) (i : Nat) : w.frozen? ⟨a.d, i, none⟩ = false := blk_frozen h.hd i
theorem Dsk.far (h : Dsk w a N s) {p : Addr} (hp : ¬ a.has p.block) (v : Value) : Dsk (w.setCell p v) a N s := h.keep fun i hi => Below.heap_setCell w p v i (fun e => hp (e ▸ hi))
theorem Dsk.setD (h : Dsk w a N s) (k : Nat) (v : Value) (s' : DS) (hv : (#[Value.slice (some ⟨a.n, 0, none⟩) N a.cn, .slice (some ⟨a.o, 0, none⟩) N a.co, .slice (some ⟨a.p, 0, none⟩) N a.cp, .bool s.dead, .bool s.lit, .int .i64 s.left] : Array Value).setIfInBounds k v = #[.slice (some ⟨a.n, 0, none⟩) N a.cn, .slice (some ⟨a.o, 0, none⟩) N a.co, .slice (some ⟨a.p, 0, none⟩) N a.cp, .bool s'.dead, .bool s'.lit, .int .i64 s'.left])
    (h1 : s'.now = s.now) (h2 : s'.old = s.old) (h3 : s'.pend = s.pend) (hok : s'.ok N) : Dsk (w.setCell ⟨a.d, k, none⟩ v) a N s' := by
  refine ⟨?_, ?_, ?_, ?_, h.hno, hok⟩
  · rw [blk_set h.hd k v, hv]
  · rw [h1]; exact blk_far h.hn (p := ⟨a.d, k, none⟩) (fun e => h.dn e.symm) v
  · rw [h2]; exact blk_far h.ho (p := ⟨a.d, k, none⟩) (fun e => h.d_o e.symm) v
  · rw [h3]; exact blk_far h.hp (p := ⟨a.d, k, none⟩) (fun e => h.dp e.symm) v
theorem Dsk.setDead (h : Dsk w a N s) (b : Bool) : Dsk (w.setCell ⟨a.d, 3, none⟩ (.bool b)) a N { s with dead := b } := h.setD 3 _ _ rfl rfl rfl rfl ⟨h.ok.now, h.ok.old, h.ok.pend, h.ok.small, h.ok.left0, h.ok.left1⟩
theorem Dsk.setLit (h : Dsk w a N s) (b : Bool) : Dsk (w.setCell ⟨a.d, 4, none⟩ (.bool b)) a N { s with lit := b } := h.setD 4 _ _ rfl rfl rfl rfl ⟨h.ok.now, h.ok.old, h.ok.pend, h.ok.small, h.ok.left0, h.ok.left1⟩
theorem Dsk.setLeft (h : Dsk w a N s) (b : Int) (h0 : 0 ≤ b) (h1 : b ≤ 9223372036854775807) : Dsk (w.setCell ⟨a.d, 5, none⟩ (.int .i64 b)) a N { s with left := b } := h.setD 5 _ _ rfl rfl rfl rfl ⟨h.ok.now, h.ok.old, h.ok.pend, h.ok.small, h0, h1⟩
end
/-- Is there such a sector? -/
def isB (i : Int) (N : Nat) : Bool := decide (0 ≤ i ∧ i < (N : Int))
set_option maxHeartbeats 1000000 in
theorem is_calls (a : DA) (N : Nat) (s : DS) (i : Int) (w : World) (h : Dsk w a N s) :
    Calls Try.prog 90 #[.pointer (some ⟨a.d, 0, none⟩), .int .i64 i] w fun e w' => e = .returned (.bool (isB i N)) ∧ w = w' := by
  have hc := h.c0
  clear h
  by_cases h0 : 0 ≤ i
  · by_cases h1 : i < (N : Int)
    · have hq : isB i N = true := by simp [isB, h0, h1]
      rw [hq]
      go_enter Try.func90, Try.ntmps90
      go_wp2
      go_ret
      exact ⟨rfl, rfl⟩
    · have hq : isB i N = false := by simp [isB, h0, h1]
      rw [hq]
      go_enter Try.func90, Try.ntmps90
      go_wp2
      go_ret
      exact ⟨rfl, rfl⟩
  · have hq : isB i N = false := by simp [isB, h0]
    rw [hq]
    go_enter Try.func90, Try.ntmps90
    go_wp2
    go_ret
    exact ⟨rfl, rfl⟩
theorem Dsk.setLeftM {w : World} {a : DA} {N : Nat} {s : DS} (h : Dsk w a N s) (v : Int) (hv : v = max 0 (s.left - 1)) : Dsk (w.setCell ⟨a.d, 5, none⟩ (.int .i64 v)) a N { s with left := max 0 (s.left - 1) } := by
  subst hv
  have := h.ok.left1
  exact h.setLeft _ (by omega) (by omega)
/-- One that is right: does it happen? -/
def DS.act (s : DS) : Bool := !(s.lit && s.left == 0)
def DS.acted (s : DS) : DS := if s.lit && s.left == 0 then { s with dead := true } else { s with left := max 0 (s.left - 1) }
set_option maxHeartbeats 1000000 in
theorem act_calls (a : DA) (N : Nat) (s : DS) (w : World) (h : Dsk w a N s) :
    Calls Try.prog 91 #[.pointer (some ⟨a.d, 0, none⟩)] w fun e w' => e = .returned (.bool s.act) ∧ Dsk w' a N s.acted ∧ But a.has w w' := by
  have h4 := h.c4
  have h5 := h.c5
  have h3 := h.c3
  have f3 := h.fz 3
  have f5 := h.fz 5
  have H := Aside0.mk h
  have l0 := h.ok.left0
  have l1 := h.ok.left1
  clear h
  by_cases hl : s.lit = true
  · by_cases hz : s.left = 0
    · have e1 : s.act = false := by simp [DS.act, hl, hz]
      have e2 : s.acted = { s with dead := true } := by simp [DS.acted, hl, hz]
      rw [e1, e2]
      rw [hl] at h4
      rw [hz] at h5
      clear hl hz e1 e2
      go_enter Try.func91, Try.ntmps91
      go_wp2
      go_ret
      exact ⟨rfl, H.out.setDead true, (But.refl _ _).set (.inl rfl) _⟩
    · have e1 : s.act = true := by simp [DS.act, hz]
      have e2 : s.acted = { s with left := max 0 (s.left - 1) } := by simp [DS.acted, hz]
      have hb : (s.left == 0) = false := by simp [hz]
      rw [e1, e2]
      rw [hl] at h4
      clear hl e1 e2
      go_enter Try.func91, Try.ntmps91
      go_wp2
      all_goals
        go_ret
        exact ⟨rfl, H.out.setLeftM _ (by omega), (But.refl _ _).set (.inl rfl) _⟩
  · have e1 : s.act = true := by simp [DS.act, hl]
    have e2 : s.acted = { s with left := max 0 (s.left - 1) } := by simp [DS.acted, hl]
    rw [e1, e2]
    have hl' : s.lit = false := by simpa using hl
    rw [hl'] at h4
    clear hl hl' e1 e2
    go_enter Try.func91, Try.ntmps91
    go_wp2
    all_goals
      go_ret
      exact ⟨rfl, H.out.setLeftM _ (by omega), (But.refl _ _).set (.inl rfl) _⟩
end Go.Proofs.Ytodhgohbcjnjfaa
