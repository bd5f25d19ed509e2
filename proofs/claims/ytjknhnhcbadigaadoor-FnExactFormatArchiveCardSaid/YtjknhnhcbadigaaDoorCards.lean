/-
  DERIVED. GIVEN WITH THE SEED: THE CARDS: each row of YtjknhnhcbadigaaDoorRows.lean that lists a variable, with what it lists TIED to the program's text (the seventh form; the later family's looks); each row that meets fmt, with fmt's text TOLD by the authors' own Lean function (tested against real Go, not proved from fmt's source: count such statements apart). THE CARD IS WHAT COUNTS. Prove the row's statement (the work); the ties are given (YtjknhnhcbadigaaDoorTie.lean); close each card by the builder's one call (the guide's Derived/Test/ToyasCard.lean, 'card_holds'). Laid BY PROGRAM, IN A SANDBOX (cutbox-door.mjs). By AI agents, Wed Nov 11 2026. No macro, syntax, notation, axiom, sorry.
-/
import Derived.Test.YtjknhnhcbadigaaDoorRows
import GoSem.ClaimSeven
namespace Go.Proofs.YtjknhnhcbadigaaDoor
namespace Rows

/-- THE TIED CARD OF 'laws.FnExactFormatClient'. -/
def fnExactFormatClientCard : Claim7 := { stood := { row := fnExactFormatClientRow, standIns := [], harness := (true, "4924b5e3d5eaffa20b986230b4631e779d581651cfa4ae5cee9fdf4548e7f89c"), looks := false }, kinds := [], alts := [], laidByText := true, laidKinds := [.data, .data, .data], laidTests := true, laidLooks := .later }
def FnExactFormatClientCardSaid : Prop := Claim7.holds Tryd.pinned (.plain (OpenSpec.ofChange fnExactFormatClientSpec)) fnExactFormatClientCard

/-- THE TIED CARD OF 'laws.FnExactFormatTransfers'. -/
def fnExactFormatTransfersCard : Claim7 := { stood := { row := fnExactFormatTransfersRow, standIns := [], harness := (true, "4924b5e3d5eaffa20b986230b4631e779d581651cfa4ae5cee9fdf4548e7f89c"), looks := false }, kinds := [], alts := [], laidByText := true, laidKinds := [.data, .data, .data], laidTests := true, laidLooks := .later }
def FnExactFormatTransfersCardSaid : Prop := Claim7.holds Tryd.pinned (.plain (OpenSpec.ofChange fnExactFormatTransfersSpec)) fnExactFormatTransfersCard

/-- THE TIED CARD OF 'laws.FnExactFormatServer'. -/
def fnExactFormatServerCard : Claim7 := { stood := { row := fnExactFormatServerRow, standIns := [], harness := (true, "4924b5e3d5eaffa20b986230b4631e779d581651cfa4ae5cee9fdf4548e7f89c"), looks := false }, kinds := [], alts := [], laidByText := true, laidKinds := [.data, .data, .data], laidTests := true, laidLooks := .later }
def FnExactFormatServerCardSaid : Prop := Claim7.holds Tryd.pinned (.plain (OpenSpec.ofChange fnExactFormatServerSpec)) fnExactFormatServerCard

/-- THE TIED CARD OF 'laws.FnExactFormatArchive'. -/
def fnExactFormatArchiveCard : Claim7 := { stood := { row := fnExactFormatArchiveRow, standIns := [], harness := (true, "4924b5e3d5eaffa20b986230b4631e779d581651cfa4ae5cee9fdf4548e7f89c"), looks := false }, kinds := [], alts := [], laidByText := true, laidKinds := [.data, .data, .data], laidTests := true, laidLooks := .later }
def FnExactFormatArchiveCardSaid : Prop := Claim7.holds Tryd.pinned (.plain (OpenSpec.ofChange fnExactFormatArchiveSpec)) fnExactFormatArchiveCard

/-- THE TIED CARD OF 'laws.FnExactFormatWorld'. -/
def fnExactFormatWorldCard : Claim7 := { stood := { row := fnExactFormatWorldRow, standIns := [], harness := (true, "4924b5e3d5eaffa20b986230b4631e779d581651cfa4ae5cee9fdf4548e7f89c"), looks := false }, kinds := [], alts := [], laidByText := true, laidKinds := [.data, .data, .data], laidTests := true, laidLooks := .later }
def FnExactFormatWorldCardSaid : Prop := Claim7.holds Tryd.pinned (.plain (OpenSpec.ofChange fnExactFormatWorldSpec)) fnExactFormatWorldCard

/-- THE SECOND FORM's CARD OF 'laws.FnExactFormatClient'. -/
def fnExactFormatClientUptoCard : Claim7 := { stood := { row := fnExactFormatClientUptoRow, standIns := [], harness := (true, "4924b5e3d5eaffa20b986230b4631e779d581651cfa4ae5cee9fdf4548e7f89c"), looks := false }, kinds := [], alts := [], laidByText := true, laidKinds := [.data, .data, .data], laidTests := true, laidLooks := .later }
def FnExactFormatClientUptoCardSaid : Prop := Claim7.holds Tryd.pinned (.plain (OpenSpec.upto fnExactFormatClientSpec)) fnExactFormatClientUptoCard

/-- THE SECOND FORM's CARD OF 'laws.FnExactFormatTransfers'. -/
def fnExactFormatTransfersUptoCard : Claim7 := { stood := { row := fnExactFormatTransfersUptoRow, standIns := [], harness := (true, "4924b5e3d5eaffa20b986230b4631e779d581651cfa4ae5cee9fdf4548e7f89c"), looks := false }, kinds := [], alts := [], laidByText := true, laidKinds := [.data, .data, .data], laidTests := true, laidLooks := .later }
def FnExactFormatTransfersUptoCardSaid : Prop := Claim7.holds Tryd.pinned (.plain (OpenSpec.upto fnExactFormatTransfersSpec)) fnExactFormatTransfersUptoCard

/-- THE SECOND FORM's CARD OF 'laws.FnExactFormatServer'. -/
def fnExactFormatServerUptoCard : Claim7 := { stood := { row := fnExactFormatServerUptoRow, standIns := [], harness := (true, "4924b5e3d5eaffa20b986230b4631e779d581651cfa4ae5cee9fdf4548e7f89c"), looks := false }, kinds := [], alts := [], laidByText := true, laidKinds := [.data, .data, .data], laidTests := true, laidLooks := .later }
def FnExactFormatServerUptoCardSaid : Prop := Claim7.holds Tryd.pinned (.plain (OpenSpec.upto fnExactFormatServerSpec)) fnExactFormatServerUptoCard

/-- THE SECOND FORM's CARD OF 'laws.FnExactFormatArchive'. -/
def fnExactFormatArchiveUptoCard : Claim7 := { stood := { row := fnExactFormatArchiveUptoRow, standIns := [], harness := (true, "4924b5e3d5eaffa20b986230b4631e779d581651cfa4ae5cee9fdf4548e7f89c"), looks := false }, kinds := [], alts := [], laidByText := true, laidKinds := [.data, .data, .data], laidTests := true, laidLooks := .later }
def FnExactFormatArchiveUptoCardSaid : Prop := Claim7.holds Tryd.pinned (.plain (OpenSpec.upto fnExactFormatArchiveSpec)) fnExactFormatArchiveUptoCard

/-- THE SECOND FORM's CARD OF 'laws.FnExactFormatWorld'. -/
def fnExactFormatWorldUptoCard : Claim7 := { stood := { row := fnExactFormatWorldUptoRow, standIns := [], harness := (true, "4924b5e3d5eaffa20b986230b4631e779d581651cfa4ae5cee9fdf4548e7f89c"), looks := false }, kinds := [], alts := [], laidByText := true, laidKinds := [.data, .data, .data], laidTests := true, laidLooks := .later }
def FnExactFormatWorldUptoCardSaid : Prop := Claim7.holds Tryd.pinned (.plain (OpenSpec.upto fnExactFormatWorldSpec)) fnExactFormatWorldUptoCard
end Rows
end Go.Proofs.YtjknhnhcbadigaaDoor
