/-
  DERIVED. GIVEN WITH THE SEED: THE CARDS: each row of YtdbjhcgogmfghaaGreatDoorRows.lean that lists a variable, with what it lists TIED to the program's text (the seventh form; the later family's looks); each row that meets fmt, with fmt's text TOLD by the authors' own Lean function (tested against real Go, not proved from fmt's source: count such statements apart). THE CARD IS WHAT COUNTS. Prove the row's statement (the work); the ties are given (YtdbjhcgogmfghaaGreatDoorTie.lean); close each card by the builder's one call (the guide's Derived/Test/ToyasCard.lean, 'card_holds'). Laid BY PROGRAM, IN A SANDBOX (cutbox-door.mjs). By AI agents, Wed Nov 11 2026. No macro, syntax, notation, axiom, sorry.
-/
import Derived.Test.YtdbjhcgogmfghaaGreatDoorRows
import GoSem.ClaimSeven
namespace Go.Proofs.YtdbjhcgogmfghaaGreatDoor
namespace Rows

/-- THE TIED CARD OF 'rosettelaw25.RecurTerms'. -/
def recurTermsCard : Claim7 := { stood := { row := recurTermsRow, standIns := [], harness := (true, "b9d768366b2b2be78be207a966b7a006ce7c5eb75ed894847f6082fba0b5f2bc"), looks := false }, kinds := [], alts := [], laidByText := true, laidKinds := [.data], laidTests := true, laidLooks := .later }
def RecurTermsCardSaid : Prop := Claim7.holds Tryz.pinned (.plain (OpenSpec.ofChange recurTermsSpec)) recurTermsCard

/-- THE TIED CARD OF 'rosettelaw25.RecurMods'. -/
def recurModsCard : Claim7 := { stood := { row := recurModsRow, standIns := [], harness := (true, "b9d768366b2b2be78be207a966b7a006ce7c5eb75ed894847f6082fba0b5f2bc"), looks := false }, kinds := [], alts := [], laidByText := true, laidKinds := [.data], laidTests := true, laidLooks := .later }
def RecurModsCardSaid : Prop := Claim7.holds Tryz.pinned (.plain (OpenSpec.ofChange recurModsSpec)) recurModsCard

/-- THE TIED CARD OF 'rosettelaw25.RecurModTerm'. -/
def recurModTermCard : Claim7 := { stood := { row := recurModTermRow, standIns := [], harness := (true, "b9d768366b2b2be78be207a966b7a006ce7c5eb75ed894847f6082fba0b5f2bc"), looks := false }, kinds := [], alts := [], laidByText := true, laidKinds := [.data], laidTests := true, laidLooks := .later }
def RecurModTermCardSaid : Prop := Claim7.holds Tryz.pinned (.plain (OpenSpec.ofChange recurModTermSpec)) recurModTermCard

/-- THE TIED CARD OF 'rosettelaw25.RecurLater'. -/
def recurLaterCard : Claim7 := { stood := { row := recurLaterRow, standIns := [], harness := (true, "b9d768366b2b2be78be207a966b7a006ce7c5eb75ed894847f6082fba0b5f2bc"), looks := false }, kinds := [], alts := [], laidByText := true, laidKinds := [.data], laidTests := true, laidLooks := .later }
def RecurLaterCardSaid : Prop := Claim7.holds Tryz.pinned (.plain (OpenSpec.ofChange recurLaterSpec)) recurLaterCard

/-- THE TIED CARD OF 'rosettelaw25.RecurSpares'. -/
def recurSparesCard : Claim7 := { stood := { row := recurSparesRow, standIns := [], harness := (true, "b9d768366b2b2be78be207a966b7a006ce7c5eb75ed894847f6082fba0b5f2bc"), looks := false }, kinds := [], alts := [], laidByText := true, laidKinds := [.data], laidTests := true, laidLooks := .later }
def RecurSparesCardSaid : Prop := Claim7.holds Tryz.pinned (.plain (OpenSpec.ofChange recurSparesSpec)) recurSparesCard

/-- THE SECOND FORM's CARD OF 'rosettelaw25.RecurTerms'. -/
def recurTermsUptoCard : Claim7 := { stood := { row := recurTermsUptoRow, standIns := [], harness := (true, "b9d768366b2b2be78be207a966b7a006ce7c5eb75ed894847f6082fba0b5f2bc"), looks := false }, kinds := [], alts := [], laidByText := true, laidKinds := [.data], laidTests := true, laidLooks := .later }
def RecurTermsUptoCardSaid : Prop := Claim7.holds Tryz.pinned (.plain (OpenSpec.upto recurTermsSpec)) recurTermsUptoCard

/-- THE SECOND FORM's CARD OF 'rosettelaw25.RecurMods'. -/
def recurModsUptoCard : Claim7 := { stood := { row := recurModsUptoRow, standIns := [], harness := (true, "b9d768366b2b2be78be207a966b7a006ce7c5eb75ed894847f6082fba0b5f2bc"), looks := false }, kinds := [], alts := [], laidByText := true, laidKinds := [.data], laidTests := true, laidLooks := .later }
def RecurModsUptoCardSaid : Prop := Claim7.holds Tryz.pinned (.plain (OpenSpec.upto recurModsSpec)) recurModsUptoCard

/-- THE SECOND FORM's CARD OF 'rosettelaw25.RecurModTerm'. -/
def recurModTermUptoCard : Claim7 := { stood := { row := recurModTermUptoRow, standIns := [], harness := (true, "b9d768366b2b2be78be207a966b7a006ce7c5eb75ed894847f6082fba0b5f2bc"), looks := false }, kinds := [], alts := [], laidByText := true, laidKinds := [.data], laidTests := true, laidLooks := .later }
def RecurModTermUptoCardSaid : Prop := Claim7.holds Tryz.pinned (.plain (OpenSpec.upto recurModTermSpec)) recurModTermUptoCard

/-- THE SECOND FORM's CARD OF 'rosettelaw25.RecurLater'. -/
def recurLaterUptoCard : Claim7 := { stood := { row := recurLaterUptoRow, standIns := [], harness := (true, "b9d768366b2b2be78be207a966b7a006ce7c5eb75ed894847f6082fba0b5f2bc"), looks := false }, kinds := [], alts := [], laidByText := true, laidKinds := [.data], laidTests := true, laidLooks := .later }
def RecurLaterUptoCardSaid : Prop := Claim7.holds Tryz.pinned (.plain (OpenSpec.upto recurLaterSpec)) recurLaterUptoCard

/-- THE SECOND FORM's CARD OF 'rosettelaw25.RecurSpares'. -/
def recurSparesUptoCard : Claim7 := { stood := { row := recurSparesUptoRow, standIns := [], harness := (true, "b9d768366b2b2be78be207a966b7a006ce7c5eb75ed894847f6082fba0b5f2bc"), looks := false }, kinds := [], alts := [], laidByText := true, laidKinds := [.data], laidTests := true, laidLooks := .later }
def RecurSparesUptoCardSaid : Prop := Claim7.holds Tryz.pinned (.plain (OpenSpec.upto recurSparesSpec)) recurSparesUptoCard
end Rows
end Go.Proofs.YtdbjhcgogmfghaaGreatDoor
