/-
  DERIVED. GIVEN WITH THE SEED: THE CARDS: each row of YtmjkgnlmdcmdbaaDoorRows.lean that lists a variable, with what it lists TIED to the program's text (the seventh form; the later family's looks); each row that meets fmt, with fmt's text TOLD by the authors' own Lean function (tested against real Go, not proved from fmt's source: count such statements apart). THE CARD IS WHAT COUNTS. Prove the row's statement (the work); the ties are given (YtmjkgnlmdcmdbaaDoorTie.lean); close each card by the builder's one call (the guide's Derived/Test/ToyasCard.lean, 'card_holds'). Laid BY PROGRAM, IN A SANDBOX (cutbox-door.mjs). By AI agents, Wed Nov 11 2026. No macro, syntax, notation, axiom, sorry.
-/
import Derived.Test.YtmjkgnlmdcmdbaaDoorRows
import GoSem.ClaimSeven
namespace Go.Proofs.YtmjkgnlmdcmdbaaDoor
namespace Rows

/-- THE TIED CARD OF 'berthagelaw03.SetFirsts'. -/
def setFirstsCard : Claim7 := { stood := { row := setFirstsRow, standIns := [], harness := (true, "0ae122481ecad4657f421f93b591a4a8cb3dec720c4e18898b4ede7ec35287d7"), looks := false }, kinds := [], alts := [], laidByText := true, laidKinds := [.data], laidTests := true, laidLooks := .later }
def SetFirstsCardSaid : Prop := Claim7.holds Tryd.pinned (.plain (OpenSpec.ofChange setFirstsSpec)) setFirstsCard

/-- THE TIED CARD OF 'berthagelaw03.SetLists'. -/
def setListsCard : Claim7 := { stood := { row := setListsRow, standIns := [], harness := (true, "0ae122481ecad4657f421f93b591a4a8cb3dec720c4e18898b4ede7ec35287d7"), looks := false }, kinds := [], alts := [], laidByText := true, laidKinds := [.data], laidTests := true, laidLooks := .later }
def SetListsCardSaid : Prop := Claim7.holds Tryd.pinned (.plain (OpenSpec.ofChange setListsSpec)) setListsCard

/-- THE TIED CARD OF 'berthagelaw03.SetApart'. -/
def setApartCard : Claim7 := { stood := { row := setApartRow, standIns := [], harness := (true, "0ae122481ecad4657f421f93b591a4a8cb3dec720c4e18898b4ede7ec35287d7"), looks := false }, kinds := [], alts := [], laidByText := true, laidKinds := [.data], laidTests := true, laidLooks := .later }
def SetApartCardSaid : Prop := Claim7.holds Tryd.pinned (.plain (OpenSpec.ofChange setApartSpec)) setApartCard

/-- THE TIED CARD OF 'berthagelaw03.SetNodes'. -/
def setNodesCard : Claim7 := { stood := { row := setNodesRow, standIns := [], harness := (true, "0ae122481ecad4657f421f93b591a4a8cb3dec720c4e18898b4ede7ec35287d7"), looks := false }, kinds := [], alts := [], laidByText := true, laidKinds := [.data], laidTests := true, laidLooks := .later }
def SetNodesCardSaid : Prop := Claim7.holds Tryd.pinned (.plain (OpenSpec.ofChange setNodesSpec)) setNodesCard

/-- THE TIED CARD OF 'berthagelaw06.NodeBack'. -/
def nodeBackCard : Claim7 := { stood := { row := nodeBackRow, standIns := [], harness := (true, "0ae122481ecad4657f421f93b591a4a8cb3dec720c4e18898b4ede7ec35287d7"), looks := false }, kinds := [], alts := [], laidByText := true, laidKinds := [.data], laidTests := true, laidLooks := .later }
def NodeBackCardSaid : Prop := Claim7.holds Tryd.pinned (.plain (OpenSpec.ofChange nodeBackSpec)) nodeBackCard

/-- THE TIED CARD OF 'berthagelaw06.NodePlays'. -/
def nodePlaysCard : Claim7 := { stood := { row := nodePlaysRow, standIns := [], harness := (true, "0ae122481ecad4657f421f93b591a4a8cb3dec720c4e18898b4ede7ec35287d7"), looks := false }, kinds := [], alts := [], laidByText := true, laidKinds := [.data], laidTests := true, laidLooks := .later }
def NodePlaysCardSaid : Prop := Claim7.holds Tryd.pinned (.plain (OpenSpec.ofChange nodePlaysSpec)) nodePlaysCard

/-- THE TIED CARD OF 'berthagelaw06.NodeNobody'. -/
def nodeNobodyCard : Claim7 := { stood := { row := nodeNobodyRow, standIns := [], harness := (true, "0ae122481ecad4657f421f93b591a4a8cb3dec720c4e18898b4ede7ec35287d7"), looks := false }, kinds := [], alts := [], laidByText := true, laidKinds := [.data], laidTests := true, laidLooks := .later }
def NodeNobodyCardSaid : Prop := Claim7.holds Tryd.pinned (.plain (OpenSpec.ofChange nodeNobodySpec)) nodeNobodyCard

/-- THE TIED CARD OF 'berthagelaw42.PowerSpares'. -/
def powerSparesCard : Claim7 := { stood := { row := powerSparesRow, standIns := [], harness := (true, "0ae122481ecad4657f421f93b591a4a8cb3dec720c4e18898b4ede7ec35287d7"), looks := false }, kinds := [], alts := [], laidByText := true, laidKinds := [.data], laidTests := true, laidLooks := .later }
def PowerSparesCardSaid : Prop := Claim7.holds Tryd.pinned (.plain (OpenSpec.ofChange powerSparesSpec)) powerSparesCard

/-- THE TIED CARD OF 'berthagelaw42.PowerNobody'. -/
def powerNobodyCard : Claim7 := { stood := { row := powerNobodyRow, standIns := [], harness := (true, "0ae122481ecad4657f421f93b591a4a8cb3dec720c4e18898b4ede7ec35287d7"), looks := false }, kinds := [], alts := [], laidByText := true, laidKinds := [.data], laidTests := true, laidLooks := .later }
def PowerNobodyCardSaid : Prop := Claim7.holds Tryd.pinned (.plain (OpenSpec.ofChange powerNobodySpec)) powerNobodyCard

/-- THE TIED CARD OF 'berthagelaw42.PowerPlays'. -/
def powerPlaysCard : Claim7 := { stood := { row := powerPlaysRow, standIns := [], harness := (true, "0ae122481ecad4657f421f93b591a4a8cb3dec720c4e18898b4ede7ec35287d7"), looks := false }, kinds := [], alts := [], laidByText := true, laidKinds := [.data], laidTests := true, laidLooks := .later }
def PowerPlaysCardSaid : Prop := Claim7.holds Tryd.pinned (.plain (OpenSpec.ofChange powerPlaysSpec)) powerPlaysCard

/-- THE TIED CARD OF 'berthagelaw38.PickRules'. -/
def pickRulesCard : Claim7 := { stood := { row := pickRulesRow, standIns := [], harness := (true, "0ae122481ecad4657f421f93b591a4a8cb3dec720c4e18898b4ede7ec35287d7"), looks := false }, kinds := [], alts := [], laidByText := true, laidKinds := [.data], laidTests := true, laidLooks := .later }
def PickRulesCardSaid : Prop := Claim7.holds Tryd.pinned (.plain (OpenSpec.ofChange pickRulesSpec)) pickRulesCard

/-- THE TIED CARD OF 'berthagelaw38.PickRows'. -/
def pickRowsCard : Claim7 := { stood := { row := pickRowsRow, standIns := [], harness := (true, "0ae122481ecad4657f421f93b591a4a8cb3dec720c4e18898b4ede7ec35287d7"), looks := false }, kinds := [], alts := [], laidByText := true, laidKinds := [.data], laidTests := true, laidLooks := .later }
def PickRowsCardSaid : Prop := Claim7.holds Tryd.pinned (.plain (OpenSpec.ofChange pickRowsSpec)) pickRowsCard

/-- THE TIED CARD OF 'berthagelaw38.PickTight'. -/
def pickTightCard : Claim7 := { stood := { row := pickTightRow, standIns := [], harness := (true, "0ae122481ecad4657f421f93b591a4a8cb3dec720c4e18898b4ede7ec35287d7"), looks := false }, kinds := [], alts := [], laidByText := true, laidKinds := [.data], laidTests := true, laidLooks := .later }
def PickTightCardSaid : Prop := Claim7.holds Tryd.pinned (.plain (OpenSpec.ofChange pickTightSpec)) pickTightCard

/-- THE TIED CARD OF 'berthagelaw39.TopoHops'. -/
def topoHopsCard : Claim7 := { stood := { row := topoHopsRow, standIns := [], harness := (true, "0ae122481ecad4657f421f93b591a4a8cb3dec720c4e18898b4ede7ec35287d7"), looks := false }, kinds := [], alts := [], laidByText := true, laidKinds := [.data], laidTests := true, laidLooks := .later }
def TopoHopsCardSaid : Prop := Claim7.holds Tryd.pinned (.plain (OpenSpec.ofChange topoHopsSpec)) topoHopsCard

/-- THE TIED CARD OF 'berthagelaw39.TopoPicks'. -/
def topoPicksCard : Claim7 := { stood := { row := topoPicksRow, standIns := [], harness := (true, "0ae122481ecad4657f421f93b591a4a8cb3dec720c4e18898b4ede7ec35287d7"), looks := false }, kinds := [], alts := [], laidByText := true, laidKinds := [.data], laidTests := true, laidLooks := .later }
def TopoPicksCardSaid : Prop := Claim7.holds Tryd.pinned (.plain (OpenSpec.ofChange topoPicksSpec)) topoPicksCard

/-- THE TIED CARD OF 'berthagelaw39.TopoNobody'. -/
def topoNobodyCard : Claim7 := { stood := { row := topoNobodyRow, standIns := [], harness := (true, "0ae122481ecad4657f421f93b591a4a8cb3dec720c4e18898b4ede7ec35287d7"), looks := false }, kinds := [], alts := [], laidByText := true, laidKinds := [.data], laidTests := true, laidLooks := .later }
def TopoNobodyCardSaid : Prop := Claim7.holds Tryd.pinned (.plain (OpenSpec.ofChange topoNobodySpec)) topoNobodyCard

/-- THE SECOND FORM's CARD OF 'berthagelaw03.SetFirsts'. -/
def setFirstsUptoCard : Claim7 := { stood := { row := setFirstsUptoRow, standIns := [], harness := (true, "0ae122481ecad4657f421f93b591a4a8cb3dec720c4e18898b4ede7ec35287d7"), looks := false }, kinds := [], alts := [], laidByText := true, laidKinds := [.data], laidTests := true, laidLooks := .later }
def SetFirstsUptoCardSaid : Prop := Claim7.holds Tryd.pinned (.plain (OpenSpec.upto setFirstsSpec)) setFirstsUptoCard

/-- THE SECOND FORM's CARD OF 'berthagelaw03.SetLists'. -/
def setListsUptoCard : Claim7 := { stood := { row := setListsUptoRow, standIns := [], harness := (true, "0ae122481ecad4657f421f93b591a4a8cb3dec720c4e18898b4ede7ec35287d7"), looks := false }, kinds := [], alts := [], laidByText := true, laidKinds := [.data], laidTests := true, laidLooks := .later }
def SetListsUptoCardSaid : Prop := Claim7.holds Tryd.pinned (.plain (OpenSpec.upto setListsSpec)) setListsUptoCard

/-- THE SECOND FORM's CARD OF 'berthagelaw03.SetApart'. -/
def setApartUptoCard : Claim7 := { stood := { row := setApartUptoRow, standIns := [], harness := (true, "0ae122481ecad4657f421f93b591a4a8cb3dec720c4e18898b4ede7ec35287d7"), looks := false }, kinds := [], alts := [], laidByText := true, laidKinds := [.data], laidTests := true, laidLooks := .later }
def SetApartUptoCardSaid : Prop := Claim7.holds Tryd.pinned (.plain (OpenSpec.upto setApartSpec)) setApartUptoCard

/-- THE SECOND FORM's CARD OF 'berthagelaw03.SetNodes'. -/
def setNodesUptoCard : Claim7 := { stood := { row := setNodesUptoRow, standIns := [], harness := (true, "0ae122481ecad4657f421f93b591a4a8cb3dec720c4e18898b4ede7ec35287d7"), looks := false }, kinds := [], alts := [], laidByText := true, laidKinds := [.data], laidTests := true, laidLooks := .later }
def SetNodesUptoCardSaid : Prop := Claim7.holds Tryd.pinned (.plain (OpenSpec.upto setNodesSpec)) setNodesUptoCard

/-- THE SECOND FORM's CARD OF 'berthagelaw06.NodeBack'. -/
def nodeBackUptoCard : Claim7 := { stood := { row := nodeBackUptoRow, standIns := [], harness := (true, "0ae122481ecad4657f421f93b591a4a8cb3dec720c4e18898b4ede7ec35287d7"), looks := false }, kinds := [], alts := [], laidByText := true, laidKinds := [.data], laidTests := true, laidLooks := .later }
def NodeBackUptoCardSaid : Prop := Claim7.holds Tryd.pinned (.plain (OpenSpec.upto nodeBackSpec)) nodeBackUptoCard

/-- THE SECOND FORM's CARD OF 'berthagelaw06.NodePlays'. -/
def nodePlaysUptoCard : Claim7 := { stood := { row := nodePlaysUptoRow, standIns := [], harness := (true, "0ae122481ecad4657f421f93b591a4a8cb3dec720c4e18898b4ede7ec35287d7"), looks := false }, kinds := [], alts := [], laidByText := true, laidKinds := [.data], laidTests := true, laidLooks := .later }
def NodePlaysUptoCardSaid : Prop := Claim7.holds Tryd.pinned (.plain (OpenSpec.upto nodePlaysSpec)) nodePlaysUptoCard

/-- THE SECOND FORM's CARD OF 'berthagelaw06.NodeNobody'. -/
def nodeNobodyUptoCard : Claim7 := { stood := { row := nodeNobodyUptoRow, standIns := [], harness := (true, "0ae122481ecad4657f421f93b591a4a8cb3dec720c4e18898b4ede7ec35287d7"), looks := false }, kinds := [], alts := [], laidByText := true, laidKinds := [.data], laidTests := true, laidLooks := .later }
def NodeNobodyUptoCardSaid : Prop := Claim7.holds Tryd.pinned (.plain (OpenSpec.upto nodeNobodySpec)) nodeNobodyUptoCard

/-- THE SECOND FORM's CARD OF 'berthagelaw42.PowerSpares'. -/
def powerSparesUptoCard : Claim7 := { stood := { row := powerSparesUptoRow, standIns := [], harness := (true, "0ae122481ecad4657f421f93b591a4a8cb3dec720c4e18898b4ede7ec35287d7"), looks := false }, kinds := [], alts := [], laidByText := true, laidKinds := [.data], laidTests := true, laidLooks := .later }
def PowerSparesUptoCardSaid : Prop := Claim7.holds Tryd.pinned (.plain (OpenSpec.upto powerSparesSpec)) powerSparesUptoCard

/-- THE SECOND FORM's CARD OF 'berthagelaw42.PowerNobody'. -/
def powerNobodyUptoCard : Claim7 := { stood := { row := powerNobodyUptoRow, standIns := [], harness := (true, "0ae122481ecad4657f421f93b591a4a8cb3dec720c4e18898b4ede7ec35287d7"), looks := false }, kinds := [], alts := [], laidByText := true, laidKinds := [.data], laidTests := true, laidLooks := .later }
def PowerNobodyUptoCardSaid : Prop := Claim7.holds Tryd.pinned (.plain (OpenSpec.upto powerNobodySpec)) powerNobodyUptoCard

/-- THE SECOND FORM's CARD OF 'berthagelaw42.PowerPlays'. -/
def powerPlaysUptoCard : Claim7 := { stood := { row := powerPlaysUptoRow, standIns := [], harness := (true, "0ae122481ecad4657f421f93b591a4a8cb3dec720c4e18898b4ede7ec35287d7"), looks := false }, kinds := [], alts := [], laidByText := true, laidKinds := [.data], laidTests := true, laidLooks := .later }
def PowerPlaysUptoCardSaid : Prop := Claim7.holds Tryd.pinned (.plain (OpenSpec.upto powerPlaysSpec)) powerPlaysUptoCard

/-- THE SECOND FORM's CARD OF 'berthagelaw38.PickRules'. -/
def pickRulesUptoCard : Claim7 := { stood := { row := pickRulesUptoRow, standIns := [], harness := (true, "0ae122481ecad4657f421f93b591a4a8cb3dec720c4e18898b4ede7ec35287d7"), looks := false }, kinds := [], alts := [], laidByText := true, laidKinds := [.data], laidTests := true, laidLooks := .later }
def PickRulesUptoCardSaid : Prop := Claim7.holds Tryd.pinned (.plain (OpenSpec.upto pickRulesSpec)) pickRulesUptoCard

/-- THE SECOND FORM's CARD OF 'berthagelaw38.PickRows'. -/
def pickRowsUptoCard : Claim7 := { stood := { row := pickRowsUptoRow, standIns := [], harness := (true, "0ae122481ecad4657f421f93b591a4a8cb3dec720c4e18898b4ede7ec35287d7"), looks := false }, kinds := [], alts := [], laidByText := true, laidKinds := [.data], laidTests := true, laidLooks := .later }
def PickRowsUptoCardSaid : Prop := Claim7.holds Tryd.pinned (.plain (OpenSpec.upto pickRowsSpec)) pickRowsUptoCard

/-- THE SECOND FORM's CARD OF 'berthagelaw38.PickTight'. -/
def pickTightUptoCard : Claim7 := { stood := { row := pickTightUptoRow, standIns := [], harness := (true, "0ae122481ecad4657f421f93b591a4a8cb3dec720c4e18898b4ede7ec35287d7"), looks := false }, kinds := [], alts := [], laidByText := true, laidKinds := [.data], laidTests := true, laidLooks := .later }
def PickTightUptoCardSaid : Prop := Claim7.holds Tryd.pinned (.plain (OpenSpec.upto pickTightSpec)) pickTightUptoCard

/-- THE SECOND FORM's CARD OF 'berthagelaw39.TopoHops'. -/
def topoHopsUptoCard : Claim7 := { stood := { row := topoHopsUptoRow, standIns := [], harness := (true, "0ae122481ecad4657f421f93b591a4a8cb3dec720c4e18898b4ede7ec35287d7"), looks := false }, kinds := [], alts := [], laidByText := true, laidKinds := [.data], laidTests := true, laidLooks := .later }
def TopoHopsUptoCardSaid : Prop := Claim7.holds Tryd.pinned (.plain (OpenSpec.upto topoHopsSpec)) topoHopsUptoCard

/-- THE SECOND FORM's CARD OF 'berthagelaw39.TopoPicks'. -/
def topoPicksUptoCard : Claim7 := { stood := { row := topoPicksUptoRow, standIns := [], harness := (true, "0ae122481ecad4657f421f93b591a4a8cb3dec720c4e18898b4ede7ec35287d7"), looks := false }, kinds := [], alts := [], laidByText := true, laidKinds := [.data], laidTests := true, laidLooks := .later }
def TopoPicksUptoCardSaid : Prop := Claim7.holds Tryd.pinned (.plain (OpenSpec.upto topoPicksSpec)) topoPicksUptoCard

/-- THE SECOND FORM's CARD OF 'berthagelaw39.TopoNobody'. -/
def topoNobodyUptoCard : Claim7 := { stood := { row := topoNobodyUptoRow, standIns := [], harness := (true, "0ae122481ecad4657f421f93b591a4a8cb3dec720c4e18898b4ede7ec35287d7"), looks := false }, kinds := [], alts := [], laidByText := true, laidKinds := [.data], laidTests := true, laidLooks := .later }
def TopoNobodyUptoCardSaid : Prop := Claim7.holds Tryd.pinned (.plain (OpenSpec.upto topoNobodySpec)) topoNobodyUptoCard
end Rows
end Go.Proofs.YtmjkgnlmdcmdbaaDoor
