/-
  No cell of these rows narrows 'for every input' (looked for: loops, veiled, ifaces, maps, wideKeys, modest, calm, conditions, laid).
  DERIVED. THE GIVEN ROWS OF THIS SEAT. 8 by the template 'for every input the law returns true; each argument reads behind the call as it read before'; 0 by the template 'total and deterministic' (their statements: YtodhgohbcjnjfaaTotals.lean).
  GIVEN WITH THE SEED: the statements are not yours to turn. If you find one false, say at which input.
  Laid BY PROGRAM, IN A SANDBOX (cutbox-rows.mjs): the forced cells as the released guide's own fill.sh prints them over the translation a7f2bb190b9d4a2a… (all of the seat's roots in one cut). By AI agents, Wed Nov 11 2026. No macro, syntax, notation, axiom, sorry.
-/
import Derived.Test.YtodhgohbcjnjfaaChecked
import GoSem.Claim
import GoSem.ClaimJoined
import GoSem.ClaimMapViews
import Derived.JoinedTies
import Derived.KernelRfl
namespace Go.Proofs.Ytodhgohbcjnjfaa
/- THE CELL 'sum', in the pinned program and in every row, IS THE sha256 OF THE DUMP (.gsa) THAT YtodhgohbcjnjfaaProg.lean LOADS. Nothing in Lean hashes anything: it is a label: what it is worth is what the hold of that sum in a sandbox is worth. -/
noncomputable def Try.pinned : Pinned := { name := "ytodhgohbcjnjfaa", sum := "a7f2bb190b9d4a2a1f9befd635177dc6854a4bf5c495739442a677369e6b1eec", checked := Try.checked }
namespace Rows
def none {H : Type} : Left H := { results := [], args := [] }

/-- 'florilegiumlaw16.BlobTexts': WHATEVER THE INPUT: true; the input reads as it did. -/
def blobTextsSpec : ChangeSpec := { name := "blobTexts", fn := fun _ => fun
  | [d1, d2] => { results := [.lit (.bool true)], args := [d1, d2] }
  | _ => none }
def blobTextsRow : OpenClaim := { program := "ytodhgohbcjnjfaa", sum := "a7f2bb190b9d4a2a1f9befd635177dc6854a4bf5c495739442a677369e6b1eec", func := "florilegium/florilegiumlaw16.BlobTexts", spec := "blobTexts", unfollowed := true, recurses := true, apart := false }
def BlobTextsSaid : Prop := blobTextsRow.holds Try.pinned (OpenSpec.ofChange blobTextsSpec)

/-- ITS FALSE NEIGHBOUR: 'it returns false'. Refute it at one input. -/
def blobTextsWrong : ChangeSpec := { name := "blobTexts", fn := fun _ => fun
  | [d1, d2] => { results := [.lit (.bool false)], args := [d1, d2] }
  | _ => none }
def BlobTextsWrongFalsely : Prop := blobTextsRow.holds Try.pinned (OpenSpec.ofChange blobTextsWrong)

/-- 'florilegiumlaw16.BlobTells': WHATEVER THE INPUT: true; the input reads as it did. -/
def blobTellsSpec : ChangeSpec := { name := "blobTells", fn := fun _ => fun
  | [d1, d2, d3, d4, d5, d6, d7] => { results := [.lit (.bool true)], args := [d1, d2, d3, d4, d5, d6, d7] }
  | _ => none }
def blobTellsRow : OpenClaim := { program := "ytodhgohbcjnjfaa", sum := "a7f2bb190b9d4a2a1f9befd635177dc6854a4bf5c495739442a677369e6b1eec", func := "florilegium/florilegiumlaw16.BlobTells", spec := "blobTells", unfollowed := true, recurses := true, apart := false }
def BlobTellsSaid : Prop := blobTellsRow.holds Try.pinned (OpenSpec.ofChange blobTellsSpec)

/-- ITS FALSE NEIGHBOUR: 'it returns false'. Refute it at one input. -/
def blobTellsWrong : ChangeSpec := { name := "blobTells", fn := fun _ => fun
  | [d1, d2, d3, d4, d5, d6, d7] => { results := [.lit (.bool false)], args := [d1, d2, d3, d4, d5, d6, d7] }
  | _ => none }
def BlobTellsWrongFalsely : Prop := blobTellsRow.holds Try.pinned (OpenSpec.ofChange blobTellsWrong)

/-- 'florilegiumlaw16.BlobBack': WHATEVER THE INPUT: true; the input reads as it did. -/
def blobBackSpec : ChangeSpec := { name := "blobBack", fn := fun _ => fun
  | [d1, d2, d3, d4, d5] => { results := [.lit (.bool true)], args := [d1, d2, d3, d4, d5] }
  | _ => none }
def blobBackRow : OpenClaim := { program := "ytodhgohbcjnjfaa", sum := "a7f2bb190b9d4a2a1f9befd635177dc6854a4bf5c495739442a677369e6b1eec", func := "florilegium/florilegiumlaw16.BlobBack", spec := "blobBack", unfollowed := true, recurses := true, apart := false }
def BlobBackSaid : Prop := blobBackRow.holds Try.pinned (OpenSpec.ofChange blobBackSpec)

/-- ITS FALSE NEIGHBOUR: 'it returns false'. Refute it at one input. -/
def blobBackWrong : ChangeSpec := { name := "blobBack", fn := fun _ => fun
  | [d1, d2, d3, d4, d5] => { results := [.lit (.bool false)], args := [d1, d2, d3, d4, d5] }
  | _ => none }
def BlobBackWrongFalsely : Prop := blobBackRow.holds Try.pinned (OpenSpec.ofChange blobBackWrong)

/-- 'florilegiumlaw16.BlobForms': WHATEVER THE INPUT: true; the input reads as it did. -/
def blobFormsSpec : ChangeSpec := { name := "blobForms", fn := fun _ => fun
  | [d1, d2] => { results := [.lit (.bool true)], args := [d1, d2] }
  | _ => none }
def blobFormsRow : OpenClaim := { program := "ytodhgohbcjnjfaa", sum := "a7f2bb190b9d4a2a1f9befd635177dc6854a4bf5c495739442a677369e6b1eec", func := "florilegium/florilegiumlaw16.BlobForms", spec := "blobForms", unfollowed := true, recurses := true, apart := false }
def BlobFormsSaid : Prop := blobFormsRow.holds Try.pinned (OpenSpec.ofChange blobFormsSpec)

/-- ITS FALSE NEIGHBOUR: 'it returns false'. Refute it at one input. -/
def blobFormsWrong : ChangeSpec := { name := "blobForms", fn := fun _ => fun
  | [d1, d2] => { results := [.lit (.bool false)], args := [d1, d2] }
  | _ => none }
def BlobFormsWrongFalsely : Prop := blobFormsRow.holds Try.pinned (OpenSpec.ofChange blobFormsWrong)

/-- 'florilegiumlaw18.SuperTells': WHATEVER THE INPUT: true; the input reads as it did. -/
def superTellsSpec : ChangeSpec := { name := "superTells", fn := fun _ => fun
  | [d1, d2, d3, d4, d5] => { results := [.lit (.bool true)], args := [d1, d2, d3, d4, d5] }
  | _ => none }
def superTellsRow : OpenClaim := { program := "ytodhgohbcjnjfaa", sum := "a7f2bb190b9d4a2a1f9befd635177dc6854a4bf5c495739442a677369e6b1eec", func := "florilegium/florilegiumlaw18.SuperTells", spec := "superTells", inPlace := ["internal/bytealg.Count", "internal/bytealg.IndexByte", "internal/bytealg.Index"], named := ["internal/bytealg.MaxLen"], apart := false }
def SuperTellsSaid : Prop := superTellsRow.holds Try.pinned (OpenSpec.ofChange superTellsSpec)

/-- ITS FALSE NEIGHBOUR: 'it returns false'. Refute it at one input. -/
def superTellsWrong : ChangeSpec := { name := "superTells", fn := fun _ => fun
  | [d1, d2, d3, d4, d5] => { results := [.lit (.bool false)], args := [d1, d2, d3, d4, d5] }
  | _ => none }
def SuperTellsWrongFalsely : Prop := superTellsRow.holds Try.pinned (OpenSpec.ofChange superTellsWrong)

/-- 'florilegiumlaw18.SuperBack': WHATEVER THE INPUT: true; the input reads as it did. -/
def superBackSpec : ChangeSpec := { name := "superBack", fn := fun _ => fun
  | [d1, d2, d3] => { results := [.lit (.bool true)], args := [d1, d2, d3] }
  | _ => none }
def superBackRow : OpenClaim := { program := "ytodhgohbcjnjfaa", sum := "a7f2bb190b9d4a2a1f9befd635177dc6854a4bf5c495739442a677369e6b1eec", func := "florilegium/florilegiumlaw18.SuperBack", spec := "superBack", inPlace := ["internal/bytealg.Count", "internal/bytealg.IndexByte", "internal/bytealg.Index"], named := ["internal/bytealg.MaxLen"], apart := false }
def SuperBackSaid : Prop := superBackRow.holds Try.pinned (OpenSpec.ofChange superBackSpec)

/-- ITS FALSE NEIGHBOUR: 'it returns false'. Refute it at one input. -/
def superBackWrong : ChangeSpec := { name := "superBack", fn := fun _ => fun
  | [d1, d2, d3] => { results := [.lit (.bool false)], args := [d1, d2, d3] }
  | _ => none }
def SuperBackWrongFalsely : Prop := superBackRow.holds Try.pinned (OpenSpec.ofChange superBackWrong)

/-- 'florilegiumlaw18.SuperTurns': WHATEVER THE INPUT: true; the input reads as it did. -/
def superTurnsSpec : ChangeSpec := { name := "superTurns", fn := fun _ => fun
  | [d1, d2, d3] => { results := [.lit (.bool true)], args := [d1, d2, d3] }
  | _ => none }
def superTurnsRow : OpenClaim := { program := "ytodhgohbcjnjfaa", sum := "a7f2bb190b9d4a2a1f9befd635177dc6854a4bf5c495739442a677369e6b1eec", func := "florilegium/florilegiumlaw18.SuperTurns", spec := "superTurns", inPlace := ["internal/bytealg.Count", "internal/bytealg.IndexByte", "internal/bytealg.Index"], named := ["internal/bytealg.MaxLen"], apart := false }
def SuperTurnsSaid : Prop := superTurnsRow.holds Try.pinned (OpenSpec.ofChange superTurnsSpec)

/-- ITS FALSE NEIGHBOUR: 'it returns false'. Refute it at one input. -/
def superTurnsWrong : ChangeSpec := { name := "superTurns", fn := fun _ => fun
  | [d1, d2, d3] => { results := [.lit (.bool false)], args := [d1, d2, d3] }
  | _ => none }
def SuperTurnsWrongFalsely : Prop := superTurnsRow.holds Try.pinned (OpenSpec.ofChange superTurnsWrong)

/-- 'florilegiumlaw18.SuperPicks': WHATEVER THE INPUT: true; the input reads as it did. -/
def superPicksSpec : ChangeSpec := { name := "superPicks", fn := fun _ => fun
  | [d1, d2, d3, d4, d5, d6, d7] => { results := [.lit (.bool true)], args := [d1, d2, d3, d4, d5, d6, d7] }
  | _ => none }
def superPicksRow : OpenClaim := { program := "ytodhgohbcjnjfaa", sum := "a7f2bb190b9d4a2a1f9befd635177dc6854a4bf5c495739442a677369e6b1eec", func := "florilegium/florilegiumlaw18.SuperPicks", spec := "superPicks", inPlace := ["internal/bytealg.Count", "internal/bytealg.IndexByte", "internal/bytealg.Index"], named := ["internal/bytealg.MaxLen"], apart := false }
def SuperPicksSaid : Prop := superPicksRow.holds Try.pinned (OpenSpec.ofChange superPicksSpec)

/-- ITS FALSE NEIGHBOUR: 'it returns false'. Refute it at one input. -/
def superPicksWrong : ChangeSpec := { name := "superPicks", fn := fun _ => fun
  | [d1, d2, d3, d4, d5, d6, d7] => { results := [.lit (.bool false)], args := [d1, d2, d3, d4, d5, d6, d7] }
  | _ => none }
def SuperPicksWrongFalsely : Prop := superPicksRow.holds Try.pinned (OpenSpec.ofChange superPicksWrong)

/- THE SECOND FORM. 'bulk': how many values and letters a reading holds, each counted each time it is reached (what is shared counts as often as it is met; a slice's spare places count too). A statement '..UptoSaid' is the law's where the arguments, and the package variables that the reading takes, are together of bulk at most 1048576: NARROWER than '..Said'. Prove '..Said' where nothing that the law and all that it calls make is longer than what came in: it says more and counts as full. Else prove '..UptoSaid'. A law counts once. -/
mutual
def uptoBulk {H : Type} : DataW H → Nat
  | .lit (.string bytes) => bytes.length + 1
  | .lit _ => 1
  | .nil => 1
  | .ptr d => uptoBulk d + 1
  | .slice elems spare => uptoBulkAll elems + uptoBulkAll spare + 1
  | .agg parts => uptoBulkAll parts + 1
  | .iface _ d => uptoBulk d + 1
  | .map entries => uptoBulkEntries entries + 1
  | .held _ => 1
def uptoBulkAll {H : Type} : List (DataW H) → Nat
  | [] => 0
  | d :: r => uptoBulk d + uptoBulkAll r
def uptoBulkEntries {H : Type} : List (Lit × DataW H) → Nat
  | [] => 0
  | x :: r => uptoBulkEntry x + uptoBulkEntries r
def uptoBulkEntry {H : Type} : Lit × DataW H → Nat
  | (.string bytes, d) => bytes.length + uptoBulk d + 1
  | (_, d) => uptoBulk d + 1
 end
def uptoSmall : (H : Type) → List (DataW H) → Bool := fun _ ds => decide (uptoBulkAll ds ≤ 1048576)
def OpenSpec.upto (s : _root_.Go.ChangeSpec) : _root_.Go.OpenSpec := { _root_.Go.OpenSpec.ofChange s with cond := some uptoSmall }

/-- 'florilegiumlaw16.BlobTexts', WHERE WHAT IT READS IS OF BULK AT MOST 1048576: true; the input reads as it did. -/
def blobTextsUptoRow : OpenClaim := { program := "ytodhgohbcjnjfaa", sum := "a7f2bb190b9d4a2a1f9befd635177dc6854a4bf5c495739442a677369e6b1eec", func := "florilegium/florilegiumlaw16.BlobTexts", spec := "blobTexts", unfollowed := true, recurses := true, apart := false, narrowed := true }
def BlobTextsUptoSaid : Prop := blobTextsUptoRow.holds Try.pinned (OpenSpec.upto blobTextsSpec)

/-- 'florilegiumlaw16.BlobTells', WHERE WHAT IT READS IS OF BULK AT MOST 1048576: true; the input reads as it did. -/
def blobTellsUptoRow : OpenClaim := { program := "ytodhgohbcjnjfaa", sum := "a7f2bb190b9d4a2a1f9befd635177dc6854a4bf5c495739442a677369e6b1eec", func := "florilegium/florilegiumlaw16.BlobTells", spec := "blobTells", unfollowed := true, recurses := true, apart := false, narrowed := true }
def BlobTellsUptoSaid : Prop := blobTellsUptoRow.holds Try.pinned (OpenSpec.upto blobTellsSpec)

/-- 'florilegiumlaw16.BlobBack', WHERE WHAT IT READS IS OF BULK AT MOST 1048576: true; the input reads as it did. -/
def blobBackUptoRow : OpenClaim := { program := "ytodhgohbcjnjfaa", sum := "a7f2bb190b9d4a2a1f9befd635177dc6854a4bf5c495739442a677369e6b1eec", func := "florilegium/florilegiumlaw16.BlobBack", spec := "blobBack", unfollowed := true, recurses := true, apart := false, narrowed := true }
def BlobBackUptoSaid : Prop := blobBackUptoRow.holds Try.pinned (OpenSpec.upto blobBackSpec)

/-- 'florilegiumlaw16.BlobForms', WHERE WHAT IT READS IS OF BULK AT MOST 1048576: true; the input reads as it did. -/
def blobFormsUptoRow : OpenClaim := { program := "ytodhgohbcjnjfaa", sum := "a7f2bb190b9d4a2a1f9befd635177dc6854a4bf5c495739442a677369e6b1eec", func := "florilegium/florilegiumlaw16.BlobForms", spec := "blobForms", unfollowed := true, recurses := true, apart := false, narrowed := true }
def BlobFormsUptoSaid : Prop := blobFormsUptoRow.holds Try.pinned (OpenSpec.upto blobFormsSpec)

/-- 'florilegiumlaw18.SuperTells', WHERE WHAT IT READS IS OF BULK AT MOST 1048576: true; the input reads as it did. -/
def superTellsUptoRow : OpenClaim := { program := "ytodhgohbcjnjfaa", sum := "a7f2bb190b9d4a2a1f9befd635177dc6854a4bf5c495739442a677369e6b1eec", func := "florilegium/florilegiumlaw18.SuperTells", spec := "superTells", inPlace := ["internal/bytealg.Count", "internal/bytealg.IndexByte", "internal/bytealg.Index"], named := ["internal/bytealg.MaxLen"], apart := false, narrowed := true }
def SuperTellsUptoSaid : Prop := superTellsUptoRow.holds Try.pinned (OpenSpec.upto superTellsSpec)

/-- 'florilegiumlaw18.SuperBack', WHERE WHAT IT READS IS OF BULK AT MOST 1048576: true; the input reads as it did. -/
def superBackUptoRow : OpenClaim := { program := "ytodhgohbcjnjfaa", sum := "a7f2bb190b9d4a2a1f9befd635177dc6854a4bf5c495739442a677369e6b1eec", func := "florilegium/florilegiumlaw18.SuperBack", spec := "superBack", inPlace := ["internal/bytealg.Count", "internal/bytealg.IndexByte", "internal/bytealg.Index"], named := ["internal/bytealg.MaxLen"], apart := false, narrowed := true }
def SuperBackUptoSaid : Prop := superBackUptoRow.holds Try.pinned (OpenSpec.upto superBackSpec)

/-- 'florilegiumlaw18.SuperTurns', WHERE WHAT IT READS IS OF BULK AT MOST 1048576: true; the input reads as it did. -/
def superTurnsUptoRow : OpenClaim := { program := "ytodhgohbcjnjfaa", sum := "a7f2bb190b9d4a2a1f9befd635177dc6854a4bf5c495739442a677369e6b1eec", func := "florilegium/florilegiumlaw18.SuperTurns", spec := "superTurns", inPlace := ["internal/bytealg.Count", "internal/bytealg.IndexByte", "internal/bytealg.Index"], named := ["internal/bytealg.MaxLen"], apart := false, narrowed := true }
def SuperTurnsUptoSaid : Prop := superTurnsUptoRow.holds Try.pinned (OpenSpec.upto superTurnsSpec)

/-- 'florilegiumlaw18.SuperPicks', WHERE WHAT IT READS IS OF BULK AT MOST 1048576: true; the input reads as it did. -/
def superPicksUptoRow : OpenClaim := { program := "ytodhgohbcjnjfaa", sum := "a7f2bb190b9d4a2a1f9befd635177dc6854a4bf5c495739442a677369e6b1eec", func := "florilegium/florilegiumlaw18.SuperPicks", spec := "superPicks", inPlace := ["internal/bytealg.Count", "internal/bytealg.IndexByte", "internal/bytealg.Index"], named := ["internal/bytealg.MaxLen"], apart := false, narrowed := true }
def SuperPicksUptoSaid : Prop := superPicksUptoRow.holds Try.pinned (OpenSpec.upto superPicksSpec)

end Rows
end Go.Proofs.Ytodhgohbcjnjfaa
