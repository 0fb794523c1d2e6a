/-
  DERIVED. GIVEN WITH THE SEED: THE CARDS: each row of YtdilmfnijkjiaaaDoorRows.lean that lists a variable, with what it lists TIED to the program's text (the seventh form; the later family's looks); each row that meets fmt, with fmt's text TOLD by the authors' own Lean function (tested against real Go, not proved from fmt's source: count such statements apart). THE CARD IS WHAT COUNTS. Prove the row's statement (the work); the ties are given (YtdilmfnijkjiaaaDoorTie.lean); close each card by the builder's one call (the guide's Derived/Test/ToyasCard.lean, 'card_holds'). Laid BY PROGRAM, IN A SANDBOX (cutbox-door.mjs). By AI agents, Wed Nov 11 2026. No macro, syntax, notation, axiom, sorry.
-/
import Derived.Test.YtdilmfnijkjiaaaDoorRows
import GoSem.ClaimSeven
namespace Go.Proofs.YtdilmfnijkjiaaaDoor
namespace Rows

/-- THE TIED CARD OF 'tidewaylaw07.InferSteps'. -/
def inferStepsCard : Claim7 := { stood := { row := inferStepsRow, standIns := [], harness := (true, "22a79f98e3f535669963a90b14f71b2a08b30e2d318bd8b9c379e7fe1659b0f8"), looks := true }, kinds := [], alts := [], laidByText := true, laidKinds := [.data, .data, .data], laidTests := true, laidLooks := .later }
def InferStepsCardSaid : Prop := Claim7.holds Tryd.pinned (.plain (OpenSpec.ofChange inferStepsSpec)) inferStepsCard

/-- THE TIED CARD OF 'tidewaylaw07.InferBelow'. -/
def inferBelowCard : Claim7 := { stood := { row := inferBelowRow, standIns := [], harness := (true, "22a79f98e3f535669963a90b14f71b2a08b30e2d318bd8b9c379e7fe1659b0f8"), looks := true }, kinds := [], alts := [], laidByText := true, laidKinds := [.data, .data, .data], laidTests := true, laidLooks := .later }
def InferBelowCardSaid : Prop := Claim7.holds Tryd.pinned (.plain (OpenSpec.ofChange inferBelowSpec)) inferBelowCard

/-- THE TIED CARD OF 'tidewaylaw07.InferNeeds'. -/
def inferNeedsCard : Claim7 := { stood := { row := inferNeedsRow, standIns := [], harness := (true, "22a79f98e3f535669963a90b14f71b2a08b30e2d318bd8b9c379e7fe1659b0f8"), looks := true }, kinds := [], alts := [], laidByText := true, laidKinds := [.data, .data, .data], laidTests := true, laidLooks := .later }
def InferNeedsCardSaid : Prop := Claim7.holds Tryd.pinned (.plain (OpenSpec.ofChange inferNeedsSpec)) inferNeedsCard

/-- THE TIED CARD OF 'tidewaylaw07.InferObjects'. -/
def inferObjectsCard : Claim7 := { stood := { row := inferObjectsRow, standIns := [], harness := (true, "22a79f98e3f535669963a90b14f71b2a08b30e2d318bd8b9c379e7fe1659b0f8"), looks := true }, kinds := [], alts := [], laidByText := true, laidKinds := [.data, .data, .data], laidTests := true, laidLooks := .later }
def InferObjectsCardSaid : Prop := Claim7.holds Tryd.pinned (.plain (OpenSpec.ofChange inferObjectsSpec)) inferObjectsCard

/-- THE TIED CARD OF 'tidewaylaw07.InferMaybes'. -/
def inferMaybesCard : Claim7 := { stood := { row := inferMaybesRow, standIns := [], harness := (true, "22a79f98e3f535669963a90b14f71b2a08b30e2d318bd8b9c379e7fe1659b0f8"), looks := true }, kinds := [], alts := [], laidByText := true, laidKinds := [.data, .data, .data], laidTests := true, laidLooks := .later }
def InferMaybesCardSaid : Prop := Claim7.holds Tryd.pinned (.plain (OpenSpec.ofChange inferMaybesSpec)) inferMaybesCard

/-- THE TIED CARD OF 'tidewaylaw07.InferGrows'. -/
def inferGrowsCard : Claim7 := { stood := { row := inferGrowsRow, standIns := [], harness := (true, "22a79f98e3f535669963a90b14f71b2a08b30e2d318bd8b9c379e7fe1659b0f8"), looks := true }, kinds := [], alts := [], laidByText := true, laidKinds := [.data, .data, .data], laidTests := true, laidLooks := .later }
def InferGrowsCardSaid : Prop := Claim7.holds Tryd.pinned (.plain (OpenSpec.ofChange inferGrowsSpec)) inferGrowsCard

/-- THE TIED CARD OF 'tidewaylaw07.InferRuns'. -/
def inferRunsCard : Claim7 := { stood := { row := inferRunsRow, standIns := [], harness := (true, "22a79f98e3f535669963a90b14f71b2a08b30e2d318bd8b9c379e7fe1659b0f8"), looks := true }, kinds := [], alts := [], laidByText := true, laidKinds := [.data, .data, .data], laidTests := true, laidLooks := .later }
def InferRunsCardSaid : Prop := Claim7.holds Tryd.pinned (.plain (OpenSpec.ofChange inferRunsSpec)) inferRunsCard

/-- THE TIED CARD OF 'tidewaylaw04.InstrTexts'. -/
def instrTextsCard : Claim7 := { stood := { row := instrTextsRow, standIns := [], harness := (true, "22a79f98e3f535669963a90b14f71b2a08b30e2d318bd8b9c379e7fe1659b0f8"), looks := true }, kinds := [], alts := [], laidByText := true, laidKinds := [.data, .data, .data, .data, .sentinel, .sentinel, .pinned], laidTests := true, laidLooks := .later }
def InstrTextsCardSaid : Prop := Claim7.holds Tryd.pinned (.plain (OpenSpec.ofChange instrTextsSpec)) instrTextsCard

/-- THE TIED CARD OF 'tidewaylaw04.InstrParses'. -/
def instrParsesCard : Claim7 := { stood := { row := instrParsesRow, standIns := [], harness := (true, "22a79f98e3f535669963a90b14f71b2a08b30e2d318bd8b9c379e7fe1659b0f8"), looks := true }, kinds := [], alts := [], laidByText := true, laidKinds := [.data, .data, .data, .data, .sentinel, .sentinel, .pinned], laidTests := true, laidLooks := .later }
def InstrParsesCardSaid : Prop := Claim7.holds Tryd.pinned (.plain (OpenSpec.ofChange instrParsesSpec)) instrParsesCard

/-- THE TIED CARD OF 'tidewaylaw04.InstrBack'. -/
def instrBackCard : Claim7 := { stood := { row := instrBackRow, standIns := [], harness := (true, "22a79f98e3f535669963a90b14f71b2a08b30e2d318bd8b9c379e7fe1659b0f8"), looks := true }, kinds := [], alts := [], laidByText := true, laidKinds := [.data, .data, .data, .data, .sentinel, .sentinel, .pinned], laidTests := true, laidLooks := .later }
def InstrBackCardSaid : Prop := Claim7.holds Tryd.pinned (.plain (OpenSpec.ofChange instrBackSpec)) instrBackCard

/-- THE TIED CARD OF 'tidewaylaw04.InstrNames'. -/
def instrNamesCard : Claim7 := { stood := { row := instrNamesRow, standIns := [], harness := (true, "22a79f98e3f535669963a90b14f71b2a08b30e2d318bd8b9c379e7fe1659b0f8"), looks := true }, kinds := [], alts := [], laidByText := true, laidKinds := [.data, .data, .data, .data, .sentinel, .sentinel, .pinned], laidTests := true, laidLooks := .later }
def InstrNamesCardSaid : Prop := Claim7.holds Tryd.pinned (.plain (OpenSpec.ofChange instrNamesSpec)) instrNamesCard

/-- THE TIED CARD OF 'tidewaylaw04.InstrTable'. -/
def instrTableCard : Claim7 := { stood := { row := instrTableRow, standIns := [], harness := (true, "22a79f98e3f535669963a90b14f71b2a08b30e2d318bd8b9c379e7fe1659b0f8"), looks := true }, kinds := [], alts := [], laidByText := true, laidKinds := [.data, .data, .data, .data, .sentinel, .sentinel, .pinned], laidTests := true, laidLooks := .later }
def InstrTableCardSaid : Prop := Claim7.holds Tryd.pinned (.plain (OpenSpec.ofChange instrTableSpec)) instrTableCard

/-- THE TIED CARD OF 'tidewaylaw04.InstrRight'. -/
def instrRightCard : Claim7 := { stood := { row := instrRightRow, standIns := [], harness := (true, "22a79f98e3f535669963a90b14f71b2a08b30e2d318bd8b9c379e7fe1659b0f8"), looks := true }, kinds := [], alts := [], laidByText := true, laidKinds := [.data, .data, .data, .data, .sentinel, .sentinel, .pinned], laidTests := true, laidLooks := .later }
def InstrRightCardSaid : Prop := Claim7.holds Tryd.pinned (.plain (OpenSpec.ofChange instrRightSpec)) instrRightCard

/-- THE TIED CARD OF 'tidewaylaw04.InstrEffect'. -/
def instrEffectCard : Claim7 := { stood := { row := instrEffectRow, standIns := [], harness := (true, "22a79f98e3f535669963a90b14f71b2a08b30e2d318bd8b9c379e7fe1659b0f8"), looks := true }, kinds := [], alts := [], laidByText := true, laidKinds := [.data, .data, .data, .data, .sentinel, .sentinel, .pinned], laidTests := true, laidLooks := .later }
def InstrEffectCardSaid : Prop := Claim7.holds Tryd.pinned (.plain (OpenSpec.ofChange instrEffectSpec)) instrEffectCard

/-- THE TIED CARD OF 'tidewaylaw04.InstrWider'. -/
def instrWiderCard : Claim7 := { stood := { row := instrWiderRow, standIns := [], harness := (true, "22a79f98e3f535669963a90b14f71b2a08b30e2d318bd8b9c379e7fe1659b0f8"), looks := true }, kinds := [], alts := [], laidByText := true, laidKinds := [.data, .data, .data, .data, .sentinel, .sentinel, .pinned], laidTests := true, laidLooks := .later }
def InstrWiderCardSaid : Prop := Claim7.holds Tryd.pinned (.plain (OpenSpec.ofChange instrWiderSpec)) instrWiderCard

/-- THE TIED CARD OF 'tidewaylaw04.InstrFits'. -/
def instrFitsCard : Claim7 := { stood := { row := instrFitsRow, standIns := [], harness := (true, "22a79f98e3f535669963a90b14f71b2a08b30e2d318bd8b9c379e7fe1659b0f8"), looks := true }, kinds := [], alts := [], laidByText := true, laidKinds := [.data, .data, .data, .data, .sentinel, .sentinel, .pinned], laidTests := true, laidLooks := .later }
def InstrFitsCardSaid : Prop := Claim7.holds Tryd.pinned (.plain (OpenSpec.ofChange instrFitsSpec)) instrFitsCard

/-- THE SECOND FORM's CARD OF 'tidewaylaw07.InferSteps'. -/
def inferStepsUptoCard : Claim7 := { stood := { row := inferStepsUptoRow, standIns := [], harness := (true, "22a79f98e3f535669963a90b14f71b2a08b30e2d318bd8b9c379e7fe1659b0f8"), looks := true }, kinds := [], alts := [], laidByText := true, laidKinds := [.data, .data, .data], laidTests := true, laidLooks := .later }
def InferStepsUptoCardSaid : Prop := Claim7.holds Tryd.pinned (.plain (OpenSpec.upto inferStepsSpec)) inferStepsUptoCard

/-- THE SECOND FORM's CARD OF 'tidewaylaw07.InferBelow'. -/
def inferBelowUptoCard : Claim7 := { stood := { row := inferBelowUptoRow, standIns := [], harness := (true, "22a79f98e3f535669963a90b14f71b2a08b30e2d318bd8b9c379e7fe1659b0f8"), looks := true }, kinds := [], alts := [], laidByText := true, laidKinds := [.data, .data, .data], laidTests := true, laidLooks := .later }
def InferBelowUptoCardSaid : Prop := Claim7.holds Tryd.pinned (.plain (OpenSpec.upto inferBelowSpec)) inferBelowUptoCard

/-- THE SECOND FORM's CARD OF 'tidewaylaw07.InferNeeds'. -/
def inferNeedsUptoCard : Claim7 := { stood := { row := inferNeedsUptoRow, standIns := [], harness := (true, "22a79f98e3f535669963a90b14f71b2a08b30e2d318bd8b9c379e7fe1659b0f8"), looks := true }, kinds := [], alts := [], laidByText := true, laidKinds := [.data, .data, .data], laidTests := true, laidLooks := .later }
def InferNeedsUptoCardSaid : Prop := Claim7.holds Tryd.pinned (.plain (OpenSpec.upto inferNeedsSpec)) inferNeedsUptoCard

/-- THE SECOND FORM's CARD OF 'tidewaylaw07.InferObjects'. -/
def inferObjectsUptoCard : Claim7 := { stood := { row := inferObjectsUptoRow, standIns := [], harness := (true, "22a79f98e3f535669963a90b14f71b2a08b30e2d318bd8b9c379e7fe1659b0f8"), looks := true }, kinds := [], alts := [], laidByText := true, laidKinds := [.data, .data, .data], laidTests := true, laidLooks := .later }
def InferObjectsUptoCardSaid : Prop := Claim7.holds Tryd.pinned (.plain (OpenSpec.upto inferObjectsSpec)) inferObjectsUptoCard

/-- THE SECOND FORM's CARD OF 'tidewaylaw07.InferMaybes'. -/
def inferMaybesUptoCard : Claim7 := { stood := { row := inferMaybesUptoRow, standIns := [], harness := (true, "22a79f98e3f535669963a90b14f71b2a08b30e2d318bd8b9c379e7fe1659b0f8"), looks := true }, kinds := [], alts := [], laidByText := true, laidKinds := [.data, .data, .data], laidTests := true, laidLooks := .later }
def InferMaybesUptoCardSaid : Prop := Claim7.holds Tryd.pinned (.plain (OpenSpec.upto inferMaybesSpec)) inferMaybesUptoCard

/-- THE SECOND FORM's CARD OF 'tidewaylaw07.InferGrows'. -/
def inferGrowsUptoCard : Claim7 := { stood := { row := inferGrowsUptoRow, standIns := [], harness := (true, "22a79f98e3f535669963a90b14f71b2a08b30e2d318bd8b9c379e7fe1659b0f8"), looks := true }, kinds := [], alts := [], laidByText := true, laidKinds := [.data, .data, .data], laidTests := true, laidLooks := .later }
def InferGrowsUptoCardSaid : Prop := Claim7.holds Tryd.pinned (.plain (OpenSpec.upto inferGrowsSpec)) inferGrowsUptoCard

/-- THE SECOND FORM's CARD OF 'tidewaylaw07.InferRuns'. -/
def inferRunsUptoCard : Claim7 := { stood := { row := inferRunsUptoRow, standIns := [], harness := (true, "22a79f98e3f535669963a90b14f71b2a08b30e2d318bd8b9c379e7fe1659b0f8"), looks := true }, kinds := [], alts := [], laidByText := true, laidKinds := [.data, .data, .data], laidTests := true, laidLooks := .later }
def InferRunsUptoCardSaid : Prop := Claim7.holds Tryd.pinned (.plain (OpenSpec.upto inferRunsSpec)) inferRunsUptoCard

/-- THE SECOND FORM's CARD OF 'tidewaylaw04.InstrTexts'. -/
def instrTextsUptoCard : Claim7 := { stood := { row := instrTextsUptoRow, standIns := [], harness := (true, "22a79f98e3f535669963a90b14f71b2a08b30e2d318bd8b9c379e7fe1659b0f8"), looks := true }, kinds := [], alts := [], laidByText := true, laidKinds := [.data, .data, .data, .data, .sentinel, .sentinel, .pinned], laidTests := true, laidLooks := .later }
def InstrTextsUptoCardSaid : Prop := Claim7.holds Tryd.pinned (.plain (OpenSpec.upto instrTextsSpec)) instrTextsUptoCard

/-- THE SECOND FORM's CARD OF 'tidewaylaw04.InstrParses'. -/
def instrParsesUptoCard : Claim7 := { stood := { row := instrParsesUptoRow, standIns := [], harness := (true, "22a79f98e3f535669963a90b14f71b2a08b30e2d318bd8b9c379e7fe1659b0f8"), looks := true }, kinds := [], alts := [], laidByText := true, laidKinds := [.data, .data, .data, .data, .sentinel, .sentinel, .pinned], laidTests := true, laidLooks := .later }
def InstrParsesUptoCardSaid : Prop := Claim7.holds Tryd.pinned (.plain (OpenSpec.upto instrParsesSpec)) instrParsesUptoCard

/-- THE SECOND FORM's CARD OF 'tidewaylaw04.InstrBack'. -/
def instrBackUptoCard : Claim7 := { stood := { row := instrBackUptoRow, standIns := [], harness := (true, "22a79f98e3f535669963a90b14f71b2a08b30e2d318bd8b9c379e7fe1659b0f8"), looks := true }, kinds := [], alts := [], laidByText := true, laidKinds := [.data, .data, .data, .data, .sentinel, .sentinel, .pinned], laidTests := true, laidLooks := .later }
def InstrBackUptoCardSaid : Prop := Claim7.holds Tryd.pinned (.plain (OpenSpec.upto instrBackSpec)) instrBackUptoCard

/-- THE SECOND FORM's CARD OF 'tidewaylaw04.InstrNames'. -/
def instrNamesUptoCard : Claim7 := { stood := { row := instrNamesUptoRow, standIns := [], harness := (true, "22a79f98e3f535669963a90b14f71b2a08b30e2d318bd8b9c379e7fe1659b0f8"), looks := true }, kinds := [], alts := [], laidByText := true, laidKinds := [.data, .data, .data, .data, .sentinel, .sentinel, .pinned], laidTests := true, laidLooks := .later }
def InstrNamesUptoCardSaid : Prop := Claim7.holds Tryd.pinned (.plain (OpenSpec.upto instrNamesSpec)) instrNamesUptoCard

/-- THE SECOND FORM's CARD OF 'tidewaylaw04.InstrTable'. -/
def instrTableUptoCard : Claim7 := { stood := { row := instrTableUptoRow, standIns := [], harness := (true, "22a79f98e3f535669963a90b14f71b2a08b30e2d318bd8b9c379e7fe1659b0f8"), looks := true }, kinds := [], alts := [], laidByText := true, laidKinds := [.data, .data, .data, .data, .sentinel, .sentinel, .pinned], laidTests := true, laidLooks := .later }
def InstrTableUptoCardSaid : Prop := Claim7.holds Tryd.pinned (.plain (OpenSpec.upto instrTableSpec)) instrTableUptoCard

/-- THE SECOND FORM's CARD OF 'tidewaylaw04.InstrRight'. -/
def instrRightUptoCard : Claim7 := { stood := { row := instrRightUptoRow, standIns := [], harness := (true, "22a79f98e3f535669963a90b14f71b2a08b30e2d318bd8b9c379e7fe1659b0f8"), looks := true }, kinds := [], alts := [], laidByText := true, laidKinds := [.data, .data, .data, .data, .sentinel, .sentinel, .pinned], laidTests := true, laidLooks := .later }
def InstrRightUptoCardSaid : Prop := Claim7.holds Tryd.pinned (.plain (OpenSpec.upto instrRightSpec)) instrRightUptoCard

/-- THE SECOND FORM's CARD OF 'tidewaylaw04.InstrEffect'. -/
def instrEffectUptoCard : Claim7 := { stood := { row := instrEffectUptoRow, standIns := [], harness := (true, "22a79f98e3f535669963a90b14f71b2a08b30e2d318bd8b9c379e7fe1659b0f8"), looks := true }, kinds := [], alts := [], laidByText := true, laidKinds := [.data, .data, .data, .data, .sentinel, .sentinel, .pinned], laidTests := true, laidLooks := .later }
def InstrEffectUptoCardSaid : Prop := Claim7.holds Tryd.pinned (.plain (OpenSpec.upto instrEffectSpec)) instrEffectUptoCard

/-- THE SECOND FORM's CARD OF 'tidewaylaw04.InstrWider'. -/
def instrWiderUptoCard : Claim7 := { stood := { row := instrWiderUptoRow, standIns := [], harness := (true, "22a79f98e3f535669963a90b14f71b2a08b30e2d318bd8b9c379e7fe1659b0f8"), looks := true }, kinds := [], alts := [], laidByText := true, laidKinds := [.data, .data, .data, .data, .sentinel, .sentinel, .pinned], laidTests := true, laidLooks := .later }
def InstrWiderUptoCardSaid : Prop := Claim7.holds Tryd.pinned (.plain (OpenSpec.upto instrWiderSpec)) instrWiderUptoCard

/-- THE SECOND FORM's CARD OF 'tidewaylaw04.InstrFits'. -/
def instrFitsUptoCard : Claim7 := { stood := { row := instrFitsUptoRow, standIns := [], harness := (true, "22a79f98e3f535669963a90b14f71b2a08b30e2d318bd8b9c379e7fe1659b0f8"), looks := true }, kinds := [], alts := [], laidByText := true, laidKinds := [.data, .data, .data, .data, .sentinel, .sentinel, .pinned], laidTests := true, laidLooks := .later }
def InstrFitsUptoCardSaid : Prop := Claim7.holds Tryd.pinned (.plain (OpenSpec.upto instrFitsSpec)) instrFitsUptoCard
end Rows
end Go.Proofs.YtdilmfnijkjiaaaDoor
