/-
  No cell of these rows narrows 'for every input' (looked for: loops, veiled, ifaces, maps, wideKeys, modest, calm, conditions, laid).
  DERIVED. THE GIVEN ROWS OF THIS SEAT. 8 by the template 'for every input the law returns true; each argument reads behind the call as it read before'; 0 by the template 'total and deterministic' (their statements: YtcgmnmohpkolmaaTotals.lean).
  GIVEN WITH THE SEED: the statements are not yours to turn. If you find one false, say at which input.
  Laid BY PROGRAM, IN A SANDBOX (cutbox-rows.mjs): the forced cells as the released guide's own fill.sh prints them over the translation f60db2276d79fe0b… (all of the seat's roots in one cut). By AI agents, Wed Nov 11 2026. No macro, syntax, notation, axiom, sorry.
-/
import Derived.Test.YtcgmnmohpkolmaaChecked
import GoSem.Claim
import GoSem.ClaimJoined
import GoSem.ClaimMapViews
import Derived.JoinedTies
import Derived.KernelRfl
namespace Go.Proofs.Ytcgmnmohpkolmaa
/- THE CELL 'sum', in the pinned program and in every row, IS THE sha256 OF THE DUMP (.gsa) THAT YtcgmnmohpkolmaaProg.lean LOADS. Nothing in Lean hashes anything: it is a label: what it is worth is what the hold of that sum in a sandbox is worth. -/
noncomputable def Try.pinned : Pinned := { name := "ytcgmnmohpkolmaa", sum := "f60db2276d79fe0b1c230bb3c4772d4afb52782f9d1612a7c17d39c2344172b7", checked := Try.checked }
namespace Rows
def none {H : Type} : Left H := { results := [], args := [] }

/-- 'florilegiumlaw06.AdlerParts': WHATEVER THE INPUT: true; the input reads as it did. -/
def adlerPartsSpec : ChangeSpec := { name := "adlerParts", fn := fun _ => fun
  | [d1, d2] => { results := [.lit (.bool true)], args := [d1, d2] }
  | _ => none }
def adlerPartsRow : OpenClaim := { program := "ytcgmnmohpkolmaa", sum := "f60db2276d79fe0b1c230bb3c4772d4afb52782f9d1612a7c17d39c2344172b7", func := "florilegium/florilegiumlaw06.AdlerParts", spec := "adlerParts", apart := false }
def AdlerPartsSaid : Prop := adlerPartsRow.holds Try.pinned (OpenSpec.ofChange adlerPartsSpec)

/-- ITS FALSE NEIGHBOUR: 'it returns false'. Refute it at one input. -/
def adlerPartsWrong : ChangeSpec := { name := "adlerParts", fn := fun _ => fun
  | [d1, d2] => { results := [.lit (.bool false)], args := [d1, d2] }
  | _ => none }
def AdlerPartsWrongFalsely : Prop := adlerPartsRow.holds Try.pinned (OpenSpec.ofChange adlerPartsWrong)

/-- 'florilegiumlaw06.AdlerOrder': WHATEVER THE INPUT: true; the input reads as it did. -/
def adlerOrderSpec : ChangeSpec := { name := "adlerOrder", fn := fun _ => fun
  | [d1, d2] => { results := [.lit (.bool true)], args := [d1, d2] }
  | _ => none }
def adlerOrderRow : OpenClaim := { program := "ytcgmnmohpkolmaa", sum := "f60db2276d79fe0b1c230bb3c4772d4afb52782f9d1612a7c17d39c2344172b7", func := "florilegium/florilegiumlaw06.AdlerOrder", spec := "adlerOrder", apart := false }
def AdlerOrderSaid : Prop := adlerOrderRow.holds Try.pinned (OpenSpec.ofChange adlerOrderSpec)

/-- ITS FALSE NEIGHBOUR: 'it returns false'. Refute it at one input. -/
def adlerOrderWrong : ChangeSpec := { name := "adlerOrder", fn := fun _ => fun
  | [d1, d2] => { results := [.lit (.bool false)], args := [d1, d2] }
  | _ => none }
def AdlerOrderWrongFalsely : Prop := adlerOrderRow.holds Try.pinned (OpenSpec.ofChange adlerOrderWrong)

/-- 'florilegiumlaw06.AdlerSeals': WHATEVER THE INPUT: true; the input reads as it did. -/
def adlerSealsSpec : ChangeSpec := { name := "adlerSeals", fn := fun _ => fun
  | [d1, d2] => { results := [.lit (.bool true)], args := [d1, d2] }
  | _ => none }
def adlerSealsRow : OpenClaim := { program := "ytcgmnmohpkolmaa", sum := "f60db2276d79fe0b1c230bb3c4772d4afb52782f9d1612a7c17d39c2344172b7", func := "florilegium/florilegiumlaw06.AdlerSeals", spec := "adlerSeals", apart := false }
def AdlerSealsSaid : Prop := adlerSealsRow.holds Try.pinned (OpenSpec.ofChange adlerSealsSpec)

/-- ITS FALSE NEIGHBOUR: 'it returns false'. Refute it at one input. -/
def adlerSealsWrong : ChangeSpec := { name := "adlerSeals", fn := fun _ => fun
  | [d1, d2] => { results := [.lit (.bool false)], args := [d1, d2] }
  | _ => none }
def AdlerSealsWrongFalsely : Prop := adlerSealsRow.holds Try.pinned (OpenSpec.ofChange adlerSealsWrong)

/-- 'florilegiumlaw06.AdlerTells': WHATEVER THE INPUT: true; the input reads as it did. -/
def adlerTellsSpec : ChangeSpec := { name := "adlerTells", fn := fun _ => fun
  | [d1, d2, d3, d4] => { results := [.lit (.bool true)], args := [d1, d2, d3, d4] }
  | _ => none }
def adlerTellsRow : OpenClaim := { program := "ytcgmnmohpkolmaa", sum := "f60db2276d79fe0b1c230bb3c4772d4afb52782f9d1612a7c17d39c2344172b7", func := "florilegium/florilegiumlaw06.AdlerTells", spec := "adlerTells", apart := false }
def AdlerTellsSaid : Prop := adlerTellsRow.holds Try.pinned (OpenSpec.ofChange adlerTellsSpec)

/-- ITS FALSE NEIGHBOUR: 'it returns false'. Refute it at one input. -/
def adlerTellsWrong : ChangeSpec := { name := "adlerTells", fn := fun _ => fun
  | [d1, d2, d3, d4] => { results := [.lit (.bool false)], args := [d1, d2, d3, d4] }
  | _ => none }
def AdlerTellsWrongFalsely : Prop := adlerTellsRow.holds Try.pinned (OpenSpec.ofChange adlerTellsWrong)

/-- 'florilegiumlaw06.AdlerFinds': WHATEVER THE INPUT: true; the input reads as it did. -/
def adlerFindsSpec : ChangeSpec := { name := "adlerFinds", fn := fun _ => fun
  | [d1, d2, d3] => { results := [.lit (.bool true)], args := [d1, d2, d3] }
  | _ => none }
def adlerFindsRow : OpenClaim := { program := "ytcgmnmohpkolmaa", sum := "f60db2276d79fe0b1c230bb3c4772d4afb52782f9d1612a7c17d39c2344172b7", func := "florilegium/florilegiumlaw06.AdlerFinds", spec := "adlerFinds", apart := false }
def AdlerFindsSaid : Prop := adlerFindsRow.holds Try.pinned (OpenSpec.ofChange adlerFindsSpec)

/-- ITS FALSE NEIGHBOUR: 'it returns false'. Refute it at one input. -/
def adlerFindsWrong : ChangeSpec := { name := "adlerFinds", fn := fun _ => fun
  | [d1, d2, d3] => { results := [.lit (.bool false)], args := [d1, d2, d3] }
  | _ => none }
def AdlerFindsWrongFalsely : Prop := adlerFindsRow.holds Try.pinned (OpenSpec.ofChange adlerFindsWrong)

/-- 'florilegiumlaw17.DiskKeeps': WHATEVER THE INPUT: true; the input reads as it did. -/
def diskKeepsSpec : ChangeSpec := { name := "diskKeeps", fn := fun _ => fun
  | [d1, d2] => { results := [.lit (.bool true)], args := [d1, d2] }
  | _ => none }
def diskKeepsRow : OpenClaim := { program := "ytcgmnmohpkolmaa", sum := "f60db2276d79fe0b1c230bb3c4772d4afb52782f9d1612a7c17d39c2344172b7", func := "florilegium/florilegiumlaw17.DiskKeeps", spec := "diskKeeps", apart := false }
def DiskKeepsSaid : Prop := diskKeepsRow.holds Try.pinned (OpenSpec.ofChange diskKeepsSpec)

/-- ITS FALSE NEIGHBOUR: 'it returns false'. Refute it at one input. -/
def diskKeepsWrong : ChangeSpec := { name := "diskKeeps", fn := fun _ => fun
  | [d1, d2] => { results := [.lit (.bool false)], args := [d1, d2] }
  | _ => none }
def DiskKeepsWrongFalsely : Prop := diskKeepsRow.holds Try.pinned (OpenSpec.ofChange diskKeepsWrong)

/-- 'florilegiumlaw17.DiskRots': WHATEVER THE INPUT: true; the input reads as it did. -/
def diskRotsSpec : ChangeSpec := { name := "diskRots", fn := fun _ => fun
  | [d1, d2, d3] => { results := [.lit (.bool true)], args := [d1, d2, d3] }
  | _ => none }
def diskRotsRow : OpenClaim := { program := "ytcgmnmohpkolmaa", sum := "f60db2276d79fe0b1c230bb3c4772d4afb52782f9d1612a7c17d39c2344172b7", func := "florilegium/florilegiumlaw17.DiskRots", spec := "diskRots", apart := false }
def DiskRotsSaid : Prop := diskRotsRow.holds Try.pinned (OpenSpec.ofChange diskRotsSpec)

/-- ITS FALSE NEIGHBOUR: 'it returns false'. Refute it at one input. -/
def diskRotsWrong : ChangeSpec := { name := "diskRots", fn := fun _ => fun
  | [d1, d2, d3] => { results := [.lit (.bool false)], args := [d1, d2, d3] }
  | _ => none }
def DiskRotsWrongFalsely : Prop := diskRotsRow.holds Try.pinned (OpenSpec.ofChange diskRotsWrong)

/-- 'florilegiumlaw17.DiskLoses': WHATEVER THE INPUT: true; the input reads as it did. -/
def diskLosesSpec : ChangeSpec := { name := "diskLoses", fn := fun _ => fun
  | [d1, d2, d3, d4] => { results := [.lit (.bool true)], args := [d1, d2, d3, d4] }
  | _ => none }
def diskLosesRow : OpenClaim := { program := "ytcgmnmohpkolmaa", sum := "f60db2276d79fe0b1c230bb3c4772d4afb52782f9d1612a7c17d39c2344172b7", func := "florilegium/florilegiumlaw17.DiskLoses", spec := "diskLoses", apart := false }
def DiskLosesSaid : Prop := diskLosesRow.holds Try.pinned (OpenSpec.ofChange diskLosesSpec)

/-- ITS FALSE NEIGHBOUR: 'it returns false'. Refute it at one input. -/
def diskLosesWrong : ChangeSpec := { name := "diskLoses", fn := fun _ => fun
  | [d1, d2, d3, d4] => { results := [.lit (.bool false)], args := [d1, d2, d3, d4] }
  | _ => none }
def DiskLosesWrongFalsely : Prop := diskLosesRow.holds Try.pinned (OpenSpec.ofChange diskLosesWrong)

/- THE SECOND FORM. 'bulk': how many values and letters a reading holds, each counted each time it is reached (what is shared counts as often as it is met; a slice's spare places count too). A statement '..UptoSaid' is the law's where the arguments, and the package variables that the reading takes, are together of bulk at most 1048576: NARROWER than '..Said'. Prove '..Said' where nothing that the law and all that it calls make is longer than what came in: it says more and counts as full. Else prove '..UptoSaid'. A law counts once. -/
mutual
def uptoBulk {H : Type} : DataW H → Nat
  | .lit (.string bytes) => bytes.length + 1
  | .lit _ => 1
  | .nil => 1
  | .ptr d => uptoBulk d + 1
  | .slice elems spare => uptoBulkAll elems + uptoBulkAll spare + 1
  | .agg parts => uptoBulkAll parts + 1
  | .iface _ d => uptoBulk d + 1
  | .map entries => uptoBulkEntries entries + 1
  | .held _ => 1
def uptoBulkAll {H : Type} : List (DataW H) → Nat
  | [] => 0
  | d :: r => uptoBulk d + uptoBulkAll r
def uptoBulkEntries {H : Type} : List (Lit × DataW H) → Nat
  | [] => 0
  | x :: r => uptoBulkEntry x + uptoBulkEntries r
def uptoBulkEntry {H : Type} : Lit × DataW H → Nat
  | (.string bytes, d) => bytes.length + uptoBulk d + 1
  | (_, d) => uptoBulk d + 1
 end
def uptoSmall : (H : Type) → List (DataW H) → Bool := fun _ ds => decide (uptoBulkAll ds ≤ 1048576)
def OpenSpec.upto (s : _root_.Go.ChangeSpec) : _root_.Go.OpenSpec := { _root_.Go.OpenSpec.ofChange s with cond := some uptoSmall }

/-- 'florilegiumlaw06.AdlerParts', WHERE WHAT IT READS IS OF BULK AT MOST 1048576: true; the input reads as it did. -/
def adlerPartsUptoRow : OpenClaim := { program := "ytcgmnmohpkolmaa", sum := "f60db2276d79fe0b1c230bb3c4772d4afb52782f9d1612a7c17d39c2344172b7", func := "florilegium/florilegiumlaw06.AdlerParts", spec := "adlerParts", apart := false, narrowed := true }
def AdlerPartsUptoSaid : Prop := adlerPartsUptoRow.holds Try.pinned (OpenSpec.upto adlerPartsSpec)

/-- 'florilegiumlaw06.AdlerOrder', WHERE WHAT IT READS IS OF BULK AT MOST 1048576: true; the input reads as it did. -/
def adlerOrderUptoRow : OpenClaim := { program := "ytcgmnmohpkolmaa", sum := "f60db2276d79fe0b1c230bb3c4772d4afb52782f9d1612a7c17d39c2344172b7", func := "florilegium/florilegiumlaw06.AdlerOrder", spec := "adlerOrder", apart := false, narrowed := true }
def AdlerOrderUptoSaid : Prop := adlerOrderUptoRow.holds Try.pinned (OpenSpec.upto adlerOrderSpec)

/-- 'florilegiumlaw06.AdlerSeals', WHERE WHAT IT READS IS OF BULK AT MOST 1048576: true; the input reads as it did. -/
def adlerSealsUptoRow : OpenClaim := { program := "ytcgmnmohpkolmaa", sum := "f60db2276d79fe0b1c230bb3c4772d4afb52782f9d1612a7c17d39c2344172b7", func := "florilegium/florilegiumlaw06.AdlerSeals", spec := "adlerSeals", apart := false, narrowed := true }
def AdlerSealsUptoSaid : Prop := adlerSealsUptoRow.holds Try.pinned (OpenSpec.upto adlerSealsSpec)

/-- 'florilegiumlaw06.AdlerTells', WHERE WHAT IT READS IS OF BULK AT MOST 1048576: true; the input reads as it did. -/
def adlerTellsUptoRow : OpenClaim := { program := "ytcgmnmohpkolmaa", sum := "f60db2276d79fe0b1c230bb3c4772d4afb52782f9d1612a7c17d39c2344172b7", func := "florilegium/florilegiumlaw06.AdlerTells", spec := "adlerTells", apart := false, narrowed := true }
def AdlerTellsUptoSaid : Prop := adlerTellsUptoRow.holds Try.pinned (OpenSpec.upto adlerTellsSpec)

/-- 'florilegiumlaw06.AdlerFinds', WHERE WHAT IT READS IS OF BULK AT MOST 1048576: true; the input reads as it did. -/
def adlerFindsUptoRow : OpenClaim := { program := "ytcgmnmohpkolmaa", sum := "f60db2276d79fe0b1c230bb3c4772d4afb52782f9d1612a7c17d39c2344172b7", func := "florilegium/florilegiumlaw06.AdlerFinds", spec := "adlerFinds", apart := false, narrowed := true }
def AdlerFindsUptoSaid : Prop := adlerFindsUptoRow.holds Try.pinned (OpenSpec.upto adlerFindsSpec)

/-- 'florilegiumlaw17.DiskKeeps', WHERE WHAT IT READS IS OF BULK AT MOST 1048576: true; the input reads as it did. -/
def diskKeepsUptoRow : OpenClaim := { program := "ytcgmnmohpkolmaa", sum := "f60db2276d79fe0b1c230bb3c4772d4afb52782f9d1612a7c17d39c2344172b7", func := "florilegium/florilegiumlaw17.DiskKeeps", spec := "diskKeeps", apart := false, narrowed := true }
def DiskKeepsUptoSaid : Prop := diskKeepsUptoRow.holds Try.pinned (OpenSpec.upto diskKeepsSpec)

/-- 'florilegiumlaw17.DiskRots', WHERE WHAT IT READS IS OF BULK AT MOST 1048576: true; the input reads as it did. -/
def diskRotsUptoRow : OpenClaim := { program := "ytcgmnmohpkolmaa", sum := "f60db2276d79fe0b1c230bb3c4772d4afb52782f9d1612a7c17d39c2344172b7", func := "florilegium/florilegiumlaw17.DiskRots", spec := "diskRots", apart := false, narrowed := true }
def DiskRotsUptoSaid : Prop := diskRotsUptoRow.holds Try.pinned (OpenSpec.upto diskRotsSpec)

/-- 'florilegiumlaw17.DiskLoses', WHERE WHAT IT READS IS OF BULK AT MOST 1048576: true; the input reads as it did. -/
def diskLosesUptoRow : OpenClaim := { program := "ytcgmnmohpkolmaa", sum := "f60db2276d79fe0b1c230bb3c4772d4afb52782f9d1612a7c17d39c2344172b7", func := "florilegium/florilegiumlaw17.DiskLoses", spec := "diskLoses", apart := false, narrowed := true }
def DiskLosesUptoSaid : Prop := diskLosesUptoRow.holds Try.pinned (OpenSpec.upto diskLosesSpec)

end Rows
end Go.Proofs.Ytcgmnmohpkolmaa
