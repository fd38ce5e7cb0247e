/-
  DERIVED. GIVEN WITH THE SEED: THE CARDS: each row of YtppocjgjjjojiaaDoorRows.lean that lists a variable, with what it lists TIED to the program's text (the seventh form; the later family's looks); each row that meets fmt, with fmt's text TOLD by the authors' own Lean function (tested against real Go, not proved from fmt's source: count such statements apart). THE CARD IS WHAT COUNTS. Prove the row's statement (the work); the ties are given (YtppocjgjjjojiaaDoorTie.lean); close each card by the builder's one call (the guide's Derived/Test/ToyasCard.lean, 'card_holds'). Laid BY PROGRAM, IN A SANDBOX (cutbox-door.mjs). By AI agents, Wed Nov 11 2026. No macro, syntax, notation, axiom, sorry.
-/
import Derived.Test.YtppocjgjjjojiaaDoorRows
import GoSem.ClaimSeven
namespace Go.Proofs.YtppocjgjjjojiaaDoor
namespace Rows

/-- THE TIED CARD OF 'laws.FnExactCodWord'. -/
def fnExactCodWordCard : Claim7 := { stood := { row := fnExactCodWordRow, standIns := [], harness := (true, "504a04cff2f0bc3526e5907ed8854016ce46c2abc74ef027a57a9cae6a15af08"), looks := false }, kinds := [], alts := [], laidByText := true, laidKinds := [.data], laidTests := true, laidLooks := .later }
def FnExactCodWordCardSaid : Prop := Claim7.holds Tryd.pinned (.plain (OpenSpec.ofChange fnExactCodWordSpec)) fnExactCodWordCard

/-- THE TIED CARD OF 'laws.FnExactCodRead'. -/
def fnExactCodReadCard : Claim7 := { stood := { row := fnExactCodReadRow, standIns := [], harness := (true, "504a04cff2f0bc3526e5907ed8854016ce46c2abc74ef027a57a9cae6a15af08"), looks := false }, kinds := [], alts := [], laidByText := true, laidKinds := [.data], laidTests := true, laidLooks := .later }
def FnExactCodReadCardSaid : Prop := Claim7.holds Tryd.pinned (.plain (OpenSpec.ofChange fnExactCodReadSpec)) fnExactCodReadCard

/-- THE TIED CARD OF 'laws.FnCodWord'. -/
def fnCodWordCard : Claim7 := { stood := { row := fnCodWordRow, standIns := [], harness := (true, "504a04cff2f0bc3526e5907ed8854016ce46c2abc74ef027a57a9cae6a15af08"), looks := false }, kinds := [], alts := [], laidByText := true, laidKinds := [.data], laidTests := true, laidLooks := .later }
def FnCodWordCardSaid : Prop := Claim7.holds Tryd.pinned (.plain (OpenSpec.ofChange fnCodWordSpec)) fnCodWordCard

/-- THE TIED CARD OF 'laws.FnExactItmOk'. -/
def fnExactItmOkCard : Claim7 := { stood := { row := fnExactItmOkRow, standIns := [], harness := (true, "504a04cff2f0bc3526e5907ed8854016ce46c2abc74ef027a57a9cae6a15af08"), looks := false }, kinds := [], alts := [], laidByText := true, laidKinds := [.data], laidTests := true, laidLooks := .later }
def FnExactItmOkCardSaid : Prop := Claim7.holds Tryd.pinned (.plain (OpenSpec.ofChange fnExactItmOkSpec)) fnExactItmOkCard

/-- THE TIED CARD OF 'laws.FnExactGueNext'. -/
def fnExactGueNextCard : Claim7 := { stood := { row := fnExactGueNextRow, standIns := [], harness := (true, "504a04cff2f0bc3526e5907ed8854016ce46c2abc74ef027a57a9cae6a15af08"), looks := false }, kinds := [], alts := [], laidByText := true, laidKinds := [.data], laidTests := true, laidLooks := .later }
def FnExactGueNextCardSaid : Prop := Claim7.holds Tryd.pinned (.plain (OpenSpec.ofChange fnExactGueNextSpec)) fnExactGueNextCard

/-- THE TIED CARD OF 'laws.FnGueSeen'. -/
def fnGueSeenCard : Claim7 := { stood := { row := fnGueSeenRow, standIns := [], harness := (true, "504a04cff2f0bc3526e5907ed8854016ce46c2abc74ef027a57a9cae6a15af08"), looks := false }, kinds := [], alts := [], laidByText := true, laidKinds := [.data], laidTests := true, laidLooks := .later }
def FnGueSeenCardSaid : Prop := Claim7.holds Tryd.pinned (.plain (OpenSpec.ofChange fnGueSeenSpec)) fnGueSeenCard

/-- THE TIED CARD OF 'laws.FnExactGueSeen'. -/
def fnExactGueSeenCard : Claim7 := { stood := { row := fnExactGueSeenRow, standIns := [], harness := (true, "504a04cff2f0bc3526e5907ed8854016ce46c2abc74ef027a57a9cae6a15af08"), looks := false }, kinds := [], alts := [], laidByText := true, laidKinds := [.data], laidTests := true, laidLooks := .later }
def FnExactGueSeenCardSaid : Prop := Claim7.holds Tryd.pinned (.plain (OpenSpec.ofChange fnExactGueSeenSpec)) fnExactGueSeenCard

/-- THE TIED CARD OF 'laws.FnGueNext'. -/
def fnGueNextCard : Claim7 := { stood := { row := fnGueNextRow, standIns := [], harness := (true, "504a04cff2f0bc3526e5907ed8854016ce46c2abc74ef027a57a9cae6a15af08"), looks := false }, kinds := [], alts := [], laidByText := true, laidKinds := [.data], laidTests := true, laidLooks := .later }
def FnGueNextCardSaid : Prop := Claim7.holds Tryd.pinned (.plain (OpenSpec.ofChange fnGueNextSpec)) fnGueNextCard

/-- THE TIED CARD OF 'laws.FnGueLearn'. -/
def fnGueLearnCard : Claim7 := { stood := { row := fnGueLearnRow, standIns := [], harness := (true, "504a04cff2f0bc3526e5907ed8854016ce46c2abc74ef027a57a9cae6a15af08"), looks := false }, kinds := [], alts := [], laidByText := true, laidKinds := [.data], laidTests := true, laidLooks := .later }
def FnGueLearnCardSaid : Prop := Claim7.holds Tryd.pinned (.plain (OpenSpec.ofChange fnGueLearnSpec)) fnGueLearnCard

/-- THE TIED CARD OF 'laws.FnCodApart'. -/
def fnCodApartCard : Claim7 := { stood := { row := fnCodApartRow, standIns := [], harness := (true, "504a04cff2f0bc3526e5907ed8854016ce46c2abc74ef027a57a9cae6a15af08"), looks := false }, kinds := [], alts := [], laidByText := true, laidKinds := [.data, .data, .data, .data, .data, .data], laidTests := true, laidLooks := .later }
def FnCodApartCardSaid : Prop := Claim7.holds Tryd.pinned (.plain (OpenSpec.ofChange fnCodApartSpec)) fnCodApartCard

/-- THE TIED CARD OF 'laws.FnExactEvtText'. -/
def fnExactEvtTextCard : Claim7 := { stood := { row := fnExactEvtTextRow, standIns := [], harness := (true, "504a04cff2f0bc3526e5907ed8854016ce46c2abc74ef027a57a9cae6a15af08"), looks := false }, kinds := [], alts := [], laidByText := true, laidKinds := [.data, .data, .data, .data, .data, .data, .data], laidTests := true, laidLooks := .later }
def FnExactEvtTextCardSaid : Prop := Claim7.holds Tryd.pinned (.plain (OpenSpec.ofChange fnExactEvtTextSpec)) fnExactEvtTextCard

/-- THE TIED CARD OF 'laws.FnExactTxtWrite'. -/
def fnExactTxtWriteCard : Claim7 := { stood := { row := fnExactTxtWriteRow, standIns := [], harness := (true, "504a04cff2f0bc3526e5907ed8854016ce46c2abc74ef027a57a9cae6a15af08"), looks := false }, kinds := [], alts := [], laidByText := true, laidKinds := [.data, .data, .data, .data, .data, .data], laidTests := true, laidLooks := .later }
def FnExactTxtWriteCardSaid : Prop := Claim7.holds Tryd.pinned (.plain (OpenSpec.ofChange fnExactTxtWriteSpec)) fnExactTxtWriteCard

/-- THE SECOND FORM's CARD OF 'laws.FnExactCodWord'. -/
def fnExactCodWordUptoCard : Claim7 := { stood := { row := fnExactCodWordUptoRow, standIns := [], harness := (true, "504a04cff2f0bc3526e5907ed8854016ce46c2abc74ef027a57a9cae6a15af08"), looks := false }, kinds := [], alts := [], laidByText := true, laidKinds := [.data], laidTests := true, laidLooks := .later }
def FnExactCodWordUptoCardSaid : Prop := Claim7.holds Tryd.pinned (.plain (OpenSpec.upto fnExactCodWordSpec)) fnExactCodWordUptoCard

/-- THE SECOND FORM's CARD OF 'laws.FnExactCodRead'. -/
def fnExactCodReadUptoCard : Claim7 := { stood := { row := fnExactCodReadUptoRow, standIns := [], harness := (true, "504a04cff2f0bc3526e5907ed8854016ce46c2abc74ef027a57a9cae6a15af08"), looks := false }, kinds := [], alts := [], laidByText := true, laidKinds := [.data], laidTests := true, laidLooks := .later }
def FnExactCodReadUptoCardSaid : Prop := Claim7.holds Tryd.pinned (.plain (OpenSpec.upto fnExactCodReadSpec)) fnExactCodReadUptoCard

/-- THE SECOND FORM's CARD OF 'laws.FnCodWord'. -/
def fnCodWordUptoCard : Claim7 := { stood := { row := fnCodWordUptoRow, standIns := [], harness := (true, "504a04cff2f0bc3526e5907ed8854016ce46c2abc74ef027a57a9cae6a15af08"), looks := false }, kinds := [], alts := [], laidByText := true, laidKinds := [.data], laidTests := true, laidLooks := .later }
def FnCodWordUptoCardSaid : Prop := Claim7.holds Tryd.pinned (.plain (OpenSpec.upto fnCodWordSpec)) fnCodWordUptoCard

/-- THE SECOND FORM's CARD OF 'laws.FnExactItmOk'. -/
def fnExactItmOkUptoCard : Claim7 := { stood := { row := fnExactItmOkUptoRow, standIns := [], harness := (true, "504a04cff2f0bc3526e5907ed8854016ce46c2abc74ef027a57a9cae6a15af08"), looks := false }, kinds := [], alts := [], laidByText := true, laidKinds := [.data], laidTests := true, laidLooks := .later }
def FnExactItmOkUptoCardSaid : Prop := Claim7.holds Tryd.pinned (.plain (OpenSpec.upto fnExactItmOkSpec)) fnExactItmOkUptoCard

/-- THE SECOND FORM's CARD OF 'laws.FnExactGueNext'. -/
def fnExactGueNextUptoCard : Claim7 := { stood := { row := fnExactGueNextUptoRow, standIns := [], harness := (true, "504a04cff2f0bc3526e5907ed8854016ce46c2abc74ef027a57a9cae6a15af08"), looks := false }, kinds := [], alts := [], laidByText := true, laidKinds := [.data], laidTests := true, laidLooks := .later }
def FnExactGueNextUptoCardSaid : Prop := Claim7.holds Tryd.pinned (.plain (OpenSpec.upto fnExactGueNextSpec)) fnExactGueNextUptoCard

/-- THE SECOND FORM's CARD OF 'laws.FnGueSeen'. -/
def fnGueSeenUptoCard : Claim7 := { stood := { row := fnGueSeenUptoRow, standIns := [], harness := (true, "504a04cff2f0bc3526e5907ed8854016ce46c2abc74ef027a57a9cae6a15af08"), looks := false }, kinds := [], alts := [], laidByText := true, laidKinds := [.data], laidTests := true, laidLooks := .later }
def FnGueSeenUptoCardSaid : Prop := Claim7.holds Tryd.pinned (.plain (OpenSpec.upto fnGueSeenSpec)) fnGueSeenUptoCard

/-- THE SECOND FORM's CARD OF 'laws.FnExactGueSeen'. -/
def fnExactGueSeenUptoCard : Claim7 := { stood := { row := fnExactGueSeenUptoRow, standIns := [], harness := (true, "504a04cff2f0bc3526e5907ed8854016ce46c2abc74ef027a57a9cae6a15af08"), looks := false }, kinds := [], alts := [], laidByText := true, laidKinds := [.data], laidTests := true, laidLooks := .later }
def FnExactGueSeenUptoCardSaid : Prop := Claim7.holds Tryd.pinned (.plain (OpenSpec.upto fnExactGueSeenSpec)) fnExactGueSeenUptoCard

/-- THE SECOND FORM's CARD OF 'laws.FnGueNext'. -/
def fnGueNextUptoCard : Claim7 := { stood := { row := fnGueNextUptoRow, standIns := [], harness := (true, "504a04cff2f0bc3526e5907ed8854016ce46c2abc74ef027a57a9cae6a15af08"), looks := false }, kinds := [], alts := [], laidByText := true, laidKinds := [.data], laidTests := true, laidLooks := .later }
def FnGueNextUptoCardSaid : Prop := Claim7.holds Tryd.pinned (.plain (OpenSpec.upto fnGueNextSpec)) fnGueNextUptoCard

/-- THE SECOND FORM's CARD OF 'laws.FnGueLearn'. -/
def fnGueLearnUptoCard : Claim7 := { stood := { row := fnGueLearnUptoRow, standIns := [], harness := (true, "504a04cff2f0bc3526e5907ed8854016ce46c2abc74ef027a57a9cae6a15af08"), looks := false }, kinds := [], alts := [], laidByText := true, laidKinds := [.data], laidTests := true, laidLooks := .later }
def FnGueLearnUptoCardSaid : Prop := Claim7.holds Tryd.pinned (.plain (OpenSpec.upto fnGueLearnSpec)) fnGueLearnUptoCard

/-- THE SECOND FORM's CARD OF 'laws.FnCodApart'. -/
def fnCodApartUptoCard : Claim7 := { stood := { row := fnCodApartUptoRow, standIns := [], harness := (true, "504a04cff2f0bc3526e5907ed8854016ce46c2abc74ef027a57a9cae6a15af08"), looks := false }, kinds := [], alts := [], laidByText := true, laidKinds := [.data, .data, .data, .data, .data, .data], laidTests := true, laidLooks := .later }
def FnCodApartUptoCardSaid : Prop := Claim7.holds Tryd.pinned (.plain (OpenSpec.upto fnCodApartSpec)) fnCodApartUptoCard

/-- THE SECOND FORM's CARD OF 'laws.FnExactEvtText'. -/
def fnExactEvtTextUptoCard : Claim7 := { stood := { row := fnExactEvtTextUptoRow, standIns := [], harness := (true, "504a04cff2f0bc3526e5907ed8854016ce46c2abc74ef027a57a9cae6a15af08"), looks := false }, kinds := [], alts := [], laidByText := true, laidKinds := [.data, .data, .data, .data, .data, .data, .data], laidTests := true, laidLooks := .later }
def FnExactEvtTextUptoCardSaid : Prop := Claim7.holds Tryd.pinned (.plain (OpenSpec.upto fnExactEvtTextSpec)) fnExactEvtTextUptoCard

/-- THE SECOND FORM's CARD OF 'laws.FnExactTxtWrite'. -/
def fnExactTxtWriteUptoCard : Claim7 := { stood := { row := fnExactTxtWriteUptoRow, standIns := [], harness := (true, "504a04cff2f0bc3526e5907ed8854016ce46c2abc74ef027a57a9cae6a15af08"), looks := false }, kinds := [], alts := [], laidByText := true, laidKinds := [.data, .data, .data, .data, .data, .data], laidTests := true, laidLooks := .later }
def FnExactTxtWriteUptoCardSaid : Prop := Claim7.holds Tryd.pinned (.plain (OpenSpec.upto fnExactTxtWriteSpec)) fnExactTxtWriteUptoCard
end Rows
end Go.Proofs.YtppocjgjjjojiaaDoor
