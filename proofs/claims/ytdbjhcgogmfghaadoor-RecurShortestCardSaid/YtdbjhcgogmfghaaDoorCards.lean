/-
  DERIVED. GIVEN WITH THE SEED: THE CARDS: each row of YtdbjhcgogmfghaaDoorRows.lean that lists a variable, with what it lists TIED to the program's text (the seventh form; the later family's looks); each row that meets fmt, with fmt's text TOLD by the authors' own Lean function (tested against real Go, not proved from fmt's source: count such statements apart). THE CARD IS WHAT COUNTS. Prove the row's statement (the work); the ties are given (YtdbjhcgogmfghaaDoorTie.lean); close each card by the builder's one call (the guide's Derived/Test/ToyasCard.lean, 'card_holds'). Laid BY PROGRAM, IN A SANDBOX (cutbox-door.mjs). By AI agents, Wed Nov 11 2026. No macro, syntax, notation, axiom, sorry.
-/
import Derived.Test.YtdbjhcgogmfghaaDoorRows
import GoSem.ClaimSeven
namespace Go.Proofs.YtdbjhcgogmfghaaDoor
namespace Rows

/-- THE TIED CARD OF 'rosettelaw25.RecurNumbers'. -/
def recurNumbersCard : Claim7 := { stood := { row := recurNumbersRow, standIns := [], harness := (true, "6ef568d098669fae83a391f1247587913aca55cf635e0f0967008a2575707201"), looks := false }, kinds := [], alts := [], laidByText := true, laidKinds := [.data], laidTests := true, laidLooks := .later }
def RecurNumbersCardSaid : Prop := Claim7.holds Tryd.pinned (.plain (OpenSpec.ofChange recurNumbersSpec)) recurNumbersCard

/-- THE TIED CARD OF 'rosettelaw25.RecurShorts'. -/
def recurShortsCard : Claim7 := { stood := { row := recurShortsRow, standIns := [], harness := (true, "6ef568d098669fae83a391f1247587913aca55cf635e0f0967008a2575707201"), looks := false }, kinds := [], alts := [], laidByText := true, laidKinds := [.data], laidTests := true, laidLooks := .later }
def RecurShortsCardSaid : Prop := Claim7.holds Tryd.pinned (.plain (OpenSpec.ofChange recurShortsSpec)) recurShortsCard

/-- THE TIED CARD OF 'rosettelaw25.RecurShortest'. -/
def recurShortestCard : Claim7 := { stood := { row := recurShortestRow, standIns := [], harness := (true, "6ef568d098669fae83a391f1247587913aca55cf635e0f0967008a2575707201"), looks := false }, kinds := [], alts := [], laidByText := true, laidKinds := [.data], laidTests := true, laidLooks := .later }
def RecurShortestCardSaid : Prop := Claim7.holds Tryd.pinned (.plain (OpenSpec.ofChange recurShortestSpec)) recurShortestCard

/-- THE TIED CARD OF 'rosettelaw25.RecurAny'. -/
def recurAnyCard : Claim7 := { stood := { row := recurAnyRow, standIns := [], harness := (true, "6ef568d098669fae83a391f1247587913aca55cf635e0f0967008a2575707201"), looks := false }, kinds := [], alts := [], laidByText := true, laidKinds := [.data], laidTests := true, laidLooks := .later }
def RecurAnyCardSaid : Prop := Claim7.holds Tryd.pinned (.plain (OpenSpec.ofChange recurAnySpec)) recurAnyCard

/-- THE SECOND FORM's CARD OF 'rosettelaw25.RecurNumbers'. -/
def recurNumbersUptoCard : Claim7 := { stood := { row := recurNumbersUptoRow, standIns := [], harness := (true, "6ef568d098669fae83a391f1247587913aca55cf635e0f0967008a2575707201"), looks := false }, kinds := [], alts := [], laidByText := true, laidKinds := [.data], laidTests := true, laidLooks := .later }
def RecurNumbersUptoCardSaid : Prop := Claim7.holds Tryd.pinned (.plain (OpenSpec.upto recurNumbersSpec)) recurNumbersUptoCard

/-- THE SECOND FORM's CARD OF 'rosettelaw25.RecurShorts'. -/
def recurShortsUptoCard : Claim7 := { stood := { row := recurShortsUptoRow, standIns := [], harness := (true, "6ef568d098669fae83a391f1247587913aca55cf635e0f0967008a2575707201"), looks := false }, kinds := [], alts := [], laidByText := true, laidKinds := [.data], laidTests := true, laidLooks := .later }
def RecurShortsUptoCardSaid : Prop := Claim7.holds Tryd.pinned (.plain (OpenSpec.upto recurShortsSpec)) recurShortsUptoCard

/-- THE SECOND FORM's CARD OF 'rosettelaw25.RecurShortest'. -/
def recurShortestUptoCard : Claim7 := { stood := { row := recurShortestUptoRow, standIns := [], harness := (true, "6ef568d098669fae83a391f1247587913aca55cf635e0f0967008a2575707201"), looks := false }, kinds := [], alts := [], laidByText := true, laidKinds := [.data], laidTests := true, laidLooks := .later }
def RecurShortestUptoCardSaid : Prop := Claim7.holds Tryd.pinned (.plain (OpenSpec.upto recurShortestSpec)) recurShortestUptoCard

/-- THE SECOND FORM's CARD OF 'rosettelaw25.RecurAny'. -/
def recurAnyUptoCard : Claim7 := { stood := { row := recurAnyUptoRow, standIns := [], harness := (true, "6ef568d098669fae83a391f1247587913aca55cf635e0f0967008a2575707201"), looks := false }, kinds := [], alts := [], laidByText := true, laidKinds := [.data], laidTests := true, laidLooks := .later }
def RecurAnyUptoCardSaid : Prop := Claim7.holds Tryd.pinned (.plain (OpenSpec.upto recurAnySpec)) recurAnyUptoCard
end Rows
end Go.Proofs.YtdbjhcgogmfghaaDoor
