/- Plain facts on a Super as a sector (no program). -/
import Derived.Test.YtodhgohbcjnjfaaAdlerSet
namespace Go.Proofs.Ytodhgohbcjnjfaa
open Go.RowKit Go.Proofs.YtodhgohbcjnjfaaW.PrintWords Go.Proofs.YtodhgohbcjnjfaaW.PrintLast Go.Proofs.YtodhgohbcjnjfaaW.PrintMore
set_option linter.unusedVariables false
set_option linter.unusedSimpArgs false
structure Sup where
  ep : Int
  gn : Int
  nx : Int
  st : Int
  sz : Int
  deriving DecidableEq
/-- Its numbers, the epoch once more. -/
def Sup.ns (s : Sup) : List Int := [s.ep, s.gn, s.nx, s.st, s.sz, s.ep]
def b31 (n : Int) : Bool := decide (0 ≤ n ∧ n ≤ 2147483647)
def flor : List Int := [102, 108, 111, 114]
def bodyOf (l : List Int) : List Int := flor ++ (l.map be4).flatten
def Sup.may (s : Sup) : Bool := s.ns.all b31 && decide (s.gn ≤ 1)
def Sup.packed (s : Sup) : List Int := sealed (bodyOf s.ns) ++ List.replicate 32 0
def Sup.pack (s : Sup) : List Int := if s.may = true then s.packed else []
theorem be4s_length (l : List Int) : ((l.map be4).flatten).length = 4 * l.length := by
  induction l with
  | nil => rfl
  | cons x l ih => rw [List.map_cons, List.flatten_cons, List.length_append, ih, be4_length, List.length_cons]; omega
theorem bodyOf_length (l : List Int) : (bodyOf l).length = 4 + 4 * l.length := by
  unfold bodyOf
  rw [List.length_append, be4s_length]
  rfl
theorem packed_length (s : Sup) : s.packed.length = 64 := by
  unfold Sup.packed sealed
  rw [List.length_append, List.length_append, be4_length, bodyOf_length, List.length_replicate]
  rfl
theorem bodyOf_byt (l : List Int) : Byt (bodyOf l) := by
  intro x hx
  unfold bodyOf at hx
  rcases List.mem_append.1 hx with h | h
  · simp only [flor, List.mem_cons, List.not_mem_nil, or_false] at h
    omega
  · obtain ⟨b, hb, hx⟩ := List.mem_flatten.1 h
    obtain ⟨n, _, rfl⟩ := List.mem_map.1 hb
    exact be4_byt n x hx
theorem packed_byt (s : Sup) : Byt s.packed := by
  intro x hx
  unfold Sup.packed sealed at hx
  rcases List.mem_append.1 hx with h | h
  · rcases List.mem_append.1 h with h | h
    · exact be4_byt _ x h
    · exact bodyOf_byt _ x h
  · have := List.eq_of_mem_replicate h
    omega
/-- The number at a place. -/
def num4 (l : List Int) : Int := l.foldl (fun n c => n * 256 + c) 0
def atB (l : List Int) (p : Nat) : Int := num4 ((l.drop p).take 4)
theorem num4_be4 (n : Int) (h : b31 n = true) : num4 (be4 n) = n := by
  have := of_decide_eq_true h
  simp only [num4, be4, List.foldl_cons, List.foldl_nil]
  omega
def supOf (l : List Int) : Sup := ⟨atB l 8, atB l 12, atB l 16, atB l 20, atB l 24⟩
/-- Is it one? -/
def isSup (l : List Int) : Bool := decide (l.length = 64) && (supOf l).may && decide ((supOf l).packed = l)
def unSup (l : List Int) : Sup := if isSup l = true then supOf l else ⟨0, 0, 0, 0, 0⟩
theorem supOf_packed (s : Sup) (h : s.may = true) : supOf s.packed = s := by
  obtain ⟨e, g, n, t, z⟩ := s
  simp only [Sup.may, Sup.ns, List.all_cons, List.all_nil, Bool.and_true, Bool.and_eq_true] at h
  obtain ⟨⟨h1, h2, h3, h4, h5, h6⟩, h7⟩ := h
  have k1 := num4_be4 _ h1
  have k2 := num4_be4 _ h2
  have k3 := num4_be4 _ h3
  have k4 := num4_be4 _ h4
  have k5 := num4_be4 _ h5
  unfold supOf atB
  congr 1
theorem isSup_packed (s : Sup) (h : s.may = true) : isSup s.packed = true := by
  unfold isSup
  rw [supOf_packed s h, h, packed_length]
  simp
end Go.Proofs.Ytodhgohbcjnjfaa
