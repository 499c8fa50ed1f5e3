/-
  DERIVED. GIVEN WITH THE SEED: THE CARDS: each row of YtolecdgpfflijaaDoorRows.lean that lists a variable, with what it lists TIED to the program's text (the seventh form; the later family's looks); each row that meets fmt, with fmt's text TOLD by the authors' own Lean function (tested against real Go, not proved from fmt's source: count such statements apart). THE CARD IS WHAT COUNTS. Prove the row's statement (the work); the ties are given (YtolecdgpfflijaaDoorTie.lean); close each card by the builder's one call (the guide's Derived/Test/ToyasCard.lean, 'card_holds'). Laid BY PROGRAM, IN A SANDBOX (cutbox-door.mjs). By AI agents, Wed Nov 11 2026. No macro, syntax, notation, axiom, sorry.
-/
import Derived.Test.YtolecdgpfflijaaDoorRows
import GoSem.ClaimSeven
namespace Go.Proofs.YtolecdgpfflijaaDoor
namespace Rows

/-- THE TIED CARD OF 'florilegiumlaw01.GaugeTexts'. -/
def gaugeTextsCard : Claim7 := { stood := { row := gaugeTextsRow, standIns := [], harness := (true, "771878d6be07f3f31720ce068bdcf3ef15ede07d8cdd5c4785ec05421ef6e6e9"), looks := true }, kinds := [], alts := [], laidByText := true, laidKinds := [.data, .data, .data], laidTests := true, laidLooks := .later }
def GaugeTextsCardSaid : Prop := Claim7.holds Tryd.pinned (.plain (OpenSpec.ofChange gaugeTextsSpec)) gaugeTextsCard

/-- THE TIED CARD OF 'florilegiumlaw01.GaugeTells'. -/
def gaugeTellsCard : Claim7 := { stood := { row := gaugeTellsRow, standIns := [], harness := (true, "771878d6be07f3f31720ce068bdcf3ef15ede07d8cdd5c4785ec05421ef6e6e9"), looks := true }, kinds := [], alts := [], laidByText := true, laidKinds := [.data, .data, .data], laidTests := true, laidLooks := .later }
def GaugeTellsCardSaid : Prop := Claim7.holds Tryd.pinned (.plain (OpenSpec.ofChange gaugeTellsSpec)) gaugeTellsCard

/-- THE TIED CARD OF 'florilegiumlaw01.GaugeBest'. -/
def gaugeBestCard : Claim7 := { stood := { row := gaugeBestRow, standIns := [], harness := (true, "771878d6be07f3f31720ce068bdcf3ef15ede07d8cdd5c4785ec05421ef6e6e9"), looks := true }, kinds := [], alts := [], laidByText := true, laidKinds := [.data, .data, .data], laidTests := true, laidLooks := .later }
def GaugeBestCardSaid : Prop := Claim7.holds Tryd.pinned (.plain (OpenSpec.ofChange gaugeBestSpec)) gaugeBestCard

/-- THE TIED CARD OF 'florilegiumlaw01.GaugeEdges'. -/
def gaugeEdgesCard : Claim7 := { stood := { row := gaugeEdgesRow, standIns := [], harness := (true, "771878d6be07f3f31720ce068bdcf3ef15ede07d8cdd5c4785ec05421ef6e6e9"), looks := true }, kinds := [], alts := [], laidByText := true, laidKinds := [.data, .data, .data], laidTests := true, laidLooks := .later }
def GaugeEdgesCardSaid : Prop := Claim7.holds Tryd.pinned (.plain (OpenSpec.ofChange gaugeEdgesSpec)) gaugeEdgesCard

/-- THE TIED CARD OF 'florilegiumlaw01.GaugeOrder'. -/
def gaugeOrderCard : Claim7 := { stood := { row := gaugeOrderRow, standIns := [], harness := (true, "771878d6be07f3f31720ce068bdcf3ef15ede07d8cdd5c4785ec05421ef6e6e9"), looks := true }, kinds := [], alts := [], laidByText := true, laidKinds := [.data, .data, .data], laidTests := true, laidLooks := .later }
def GaugeOrderCardSaid : Prop := Claim7.holds Tryd.pinned (.plain (OpenSpec.ofChange gaugeOrderSpec)) gaugeOrderCard

/-- THE TIED CARD OF 'florilegiumlaw07.IdForms'. -/
def idFormsCard : Claim7 := { stood := { row := idFormsRow, standIns := [], harness := (true, "771878d6be07f3f31720ce068bdcf3ef15ede07d8cdd5c4785ec05421ef6e6e9"), looks := true }, kinds := [], alts := [], laidByText := true, laidKinds := [.data, .data, .data, .data, .pinned], laidTests := true, laidLooks := .later }
def IdFormsCardSaid : Prop := Claim7.holds Tryd.pinned (.plain (OpenSpec.ofChange idFormsSpec)) idFormsCard

/-- THE TIED CARD OF 'florilegiumlaw07.IdSets'. -/
def idSetsCard : Claim7 := { stood := { row := idSetsRow, standIns := [], harness := (true, "771878d6be07f3f31720ce068bdcf3ef15ede07d8cdd5c4785ec05421ef6e6e9"), looks := true }, kinds := [], alts := [], laidByText := true, laidKinds := [.data, .data, .data], laidTests := true, laidLooks := .later }
def IdSetsCardSaid : Prop := Claim7.holds Tryd.pinned (.plain (OpenSpec.ofChange idSetsSpec)) idSetsCard

/-- THE TIED CARD OF 'florilegiumlaw07.IdBack'. -/
def idBackCard : Claim7 := { stood := { row := idBackRow, standIns := [], harness := (true, "771878d6be07f3f31720ce068bdcf3ef15ede07d8cdd5c4785ec05421ef6e6e9"), looks := true }, kinds := [], alts := [], laidByText := true, laidKinds := [.data, .data, .data, .data, .sentinel, .sentinel, .pinned], laidTests := true, laidLooks := .later }
def IdBackCardSaid : Prop := Claim7.holds Tryd.pinned (.plain (OpenSpec.ofChange idBackSpec)) idBackCard

/-- THE SECOND FORM's CARD OF 'florilegiumlaw01.GaugeTexts'. -/
def gaugeTextsUptoCard : Claim7 := { stood := { row := gaugeTextsUptoRow, standIns := [], harness := (true, "771878d6be07f3f31720ce068bdcf3ef15ede07d8cdd5c4785ec05421ef6e6e9"), looks := true }, kinds := [], alts := [], laidByText := true, laidKinds := [.data, .data, .data], laidTests := true, laidLooks := .later }
def GaugeTextsUptoCardSaid : Prop := Claim7.holds Tryd.pinned (.plain (OpenSpec.upto gaugeTextsSpec)) gaugeTextsUptoCard

/-- THE SECOND FORM's CARD OF 'florilegiumlaw01.GaugeTells'. -/
def gaugeTellsUptoCard : Claim7 := { stood := { row := gaugeTellsUptoRow, standIns := [], harness := (true, "771878d6be07f3f31720ce068bdcf3ef15ede07d8cdd5c4785ec05421ef6e6e9"), looks := true }, kinds := [], alts := [], laidByText := true, laidKinds := [.data, .data, .data], laidTests := true, laidLooks := .later }
def GaugeTellsUptoCardSaid : Prop := Claim7.holds Tryd.pinned (.plain (OpenSpec.upto gaugeTellsSpec)) gaugeTellsUptoCard

/-- THE SECOND FORM's CARD OF 'florilegiumlaw01.GaugeBest'. -/
def gaugeBestUptoCard : Claim7 := { stood := { row := gaugeBestUptoRow, standIns := [], harness := (true, "771878d6be07f3f31720ce068bdcf3ef15ede07d8cdd5c4785ec05421ef6e6e9"), looks := true }, kinds := [], alts := [], laidByText := true, laidKinds := [.data, .data, .data], laidTests := true, laidLooks := .later }
def GaugeBestUptoCardSaid : Prop := Claim7.holds Tryd.pinned (.plain (OpenSpec.upto gaugeBestSpec)) gaugeBestUptoCard

/-- THE SECOND FORM's CARD OF 'florilegiumlaw01.GaugeEdges'. -/
def gaugeEdgesUptoCard : Claim7 := { stood := { row := gaugeEdgesUptoRow, standIns := [], harness := (true, "771878d6be07f3f31720ce068bdcf3ef15ede07d8cdd5c4785ec05421ef6e6e9"), looks := true }, kinds := [], alts := [], laidByText := true, laidKinds := [.data, .data, .data], laidTests := true, laidLooks := .later }
def GaugeEdgesUptoCardSaid : Prop := Claim7.holds Tryd.pinned (.plain (OpenSpec.upto gaugeEdgesSpec)) gaugeEdgesUptoCard

/-- THE SECOND FORM's CARD OF 'florilegiumlaw01.GaugeOrder'. -/
def gaugeOrderUptoCard : Claim7 := { stood := { row := gaugeOrderUptoRow, standIns := [], harness := (true, "771878d6be07f3f31720ce068bdcf3ef15ede07d8cdd5c4785ec05421ef6e6e9"), looks := true }, kinds := [], alts := [], laidByText := true, laidKinds := [.data, .data, .data], laidTests := true, laidLooks := .later }
def GaugeOrderUptoCardSaid : Prop := Claim7.holds Tryd.pinned (.plain (OpenSpec.upto gaugeOrderSpec)) gaugeOrderUptoCard

/-- THE SECOND FORM's CARD OF 'florilegiumlaw07.IdForms'. -/
def idFormsUptoCard : Claim7 := { stood := { row := idFormsUptoRow, standIns := [], harness := (true, "771878d6be07f3f31720ce068bdcf3ef15ede07d8cdd5c4785ec05421ef6e6e9"), looks := true }, kinds := [], alts := [], laidByText := true, laidKinds := [.data, .data, .data, .data, .pinned], laidTests := true, laidLooks := .later }
def IdFormsUptoCardSaid : Prop := Claim7.holds Tryd.pinned (.plain (OpenSpec.upto idFormsSpec)) idFormsUptoCard

/-- THE SECOND FORM's CARD OF 'florilegiumlaw07.IdSets'. -/
def idSetsUptoCard : Claim7 := { stood := { row := idSetsUptoRow, standIns := [], harness := (true, "771878d6be07f3f31720ce068bdcf3ef15ede07d8cdd5c4785ec05421ef6e6e9"), looks := true }, kinds := [], alts := [], laidByText := true, laidKinds := [.data, .data, .data], laidTests := true, laidLooks := .later }
def IdSetsUptoCardSaid : Prop := Claim7.holds Tryd.pinned (.plain (OpenSpec.upto idSetsSpec)) idSetsUptoCard

/-- THE SECOND FORM's CARD OF 'florilegiumlaw07.IdBack'. -/
def idBackUptoCard : Claim7 := { stood := { row := idBackUptoRow, standIns := [], harness := (true, "771878d6be07f3f31720ce068bdcf3ef15ede07d8cdd5c4785ec05421ef6e6e9"), looks := true }, kinds := [], alts := [], laidByText := true, laidKinds := [.data, .data, .data, .data, .sentinel, .sentinel, .pinned], laidTests := true, laidLooks := .later }
def IdBackUptoCardSaid : Prop := Claim7.holds Tryd.pinned (.plain (OpenSpec.upto idBackSpec)) idBackUptoCard
end Rows
end Go.Proofs.YtolecdgpfflijaaDoor
