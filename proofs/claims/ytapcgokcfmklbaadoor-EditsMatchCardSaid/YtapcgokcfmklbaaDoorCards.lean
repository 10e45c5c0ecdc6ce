/-
  DERIVED. GIVEN WITH THE SEED: THE CARDS: each row of YtapcgokcfmklbaaDoorRows.lean that lists a variable, with what it lists TIED to the program's text (the seventh form; the later family's looks); each row that meets fmt, with fmt's text TOLD by the authors' own Lean function (tested against real Go, not proved from fmt's source: count such statements apart). THE CARD IS WHAT COUNTS. Prove the row's statement (the work); the ties are given (YtapcgokcfmklbaaDoorTie.lean); close each card by the builder's one call (the guide's Derived/Test/ToyasCard.lean, 'card_holds'). Laid BY PROGRAM, IN A SANDBOX (cutbox-door.mjs). By AI agents, Wed Nov 11 2026. No macro, syntax, notation, axiom, sorry.
-/
import Derived.Test.YtapcgokcfmklbaaDoorRows
import GoSem.ClaimSeven
namespace Go.Proofs.YtapcgokcfmklbaaDoor
namespace Rows

/-- THE TIED CARD OF 'dyelaw1.SketchesMatch'. -/
def sketchesMatchCard : Claim7 := { stood := { row := sketchesMatchRow, standIns := [], harness := (true, "d5b4c5b13e6f2710a2cb662ce8480e31557b2373c652e738d697671e6e1f56ba"), looks := true }, kinds := [], alts := [], laidByText := true, laidKinds := [.data, .pinned], laidTests := true, laidLooks := .later }
def SketchesMatchCardSaid : Prop := Claim7.holds Tryd.pinned (.plain (OpenSpec.ofChange sketchesMatchSpec)) sketchesMatchCard

/-- THE TIED CARD OF 'dyelaw1.FramesCheck'. -/
def framesCheckCard : Claim7 := { stood := { row := framesCheckRow, standIns := [], harness := (true, "d5b4c5b13e6f2710a2cb662ce8480e31557b2373c652e738d697671e6e1f56ba"), looks := true }, kinds := [], alts := [], laidByText := true, laidKinds := [.data, .data, .data], laidTests := true, laidLooks := .later }
def FramesCheckCardSaid : Prop := Claim7.holds Tryd.pinned (.plain (OpenSpec.ofChange framesCheckSpec)) framesCheckCard

/-- THE TIED CARD OF 'dyelaw1.EditsAreTrimmed'. -/
def editsAreTrimmedCard : Claim7 := { stood := { row := editsAreTrimmedRow, standIns := [], harness := (true, "d5b4c5b13e6f2710a2cb662ce8480e31557b2373c652e738d697671e6e1f56ba"), looks := true }, kinds := [], alts := [], laidByText := true, laidKinds := [.data, .pinned], laidTests := true, laidLooks := .later }
def EditsAreTrimmedCardSaid : Prop := Claim7.holds Tryd.pinned (.plain (OpenSpec.ofChange editsAreTrimmedSpec)) editsAreTrimmedCard

/-- THE TIED CARD OF 'dyelaw1.CodesMatch'. -/
def codesMatchCard : Claim7 := { stood := { row := codesMatchRow, standIns := [], harness := (true, "d5b4c5b13e6f2710a2cb662ce8480e31557b2373c652e738d697671e6e1f56ba"), looks := true }, kinds := [], alts := [], laidByText := true, laidKinds := [.data, .data, .data], laidTests := true, laidLooks := .later }
def CodesMatchCardSaid : Prop := Claim7.holds Tryd.pinned (.plain (OpenSpec.ofChange codesMatchSpec)) codesMatchCard

/-- THE TIED CARD OF 'dyelaw1.EditsDiffer'. -/
def editsDifferCard : Claim7 := { stood := { row := editsDifferRow, standIns := [], harness := (true, "d5b4c5b13e6f2710a2cb662ce8480e31557b2373c652e738d697671e6e1f56ba"), looks := true }, kinds := [], alts := [], laidByText := true, laidKinds := [.data, .pinned], laidTests := true, laidLooks := .later }
def EditsDifferCardSaid : Prop := Claim7.holds Tryd.pinned (.plain (OpenSpec.ofChange editsDifferSpec)) editsDifferCard

/-- THE TIED CARD OF 'dyelaw1.EditsMatch'. -/
def editsMatchCard : Claim7 := { stood := { row := editsMatchRow, standIns := [], harness := (true, "d5b4c5b13e6f2710a2cb662ce8480e31557b2373c652e738d697671e6e1f56ba"), looks := true }, kinds := [], alts := [], laidByText := true, laidKinds := [.data, .pinned], laidTests := true, laidLooks := .later }
def EditsMatchCardSaid : Prop := Claim7.holds Tryd.pinned (.plain (OpenSpec.ofChange editsMatchSpec)) editsMatchCard

/-- THE TIED CARD OF 'dyelaw1.FramesParse'. -/
def framesParseCard : Claim7 := { stood := { row := framesParseRow, standIns := [], harness := (true, "d5b4c5b13e6f2710a2cb662ce8480e31557b2373c652e738d697671e6e1f56ba"), looks := true }, kinds := [], alts := [], laidByText := true, laidKinds := [.data, .data, .data, .data, .sentinel, .sentinel, .pinned], laidTests := true, laidLooks := .later }
def FramesParseCardSaid : Prop := Claim7.holds Tryd.pinned (.plain (OpenSpec.ofChange framesParseSpec)) framesParseCard

/-- THE TIED CARD OF 'dyelaw1.FramesPrint'. -/
def framesPrintCard : Claim7 := { stood := { row := framesPrintRow, standIns := [], harness := (true, "d5b4c5b13e6f2710a2cb662ce8480e31557b2373c652e738d697671e6e1f56ba"), looks := true }, kinds := [], alts := [], laidByText := true, laidKinds := [.data, .data, .data, .data, .sentinel, .sentinel, .pinned], laidTests := true, laidLooks := .later }
def FramesPrintCardSaid : Prop := Claim7.holds Tryd.pinned (.plain (OpenSpec.ofChange framesPrintSpec)) framesPrintCard

/-- THE SECOND FORM's CARD OF 'dyelaw1.SketchesMatch'. -/
def sketchesMatchUptoCard : Claim7 := { stood := { row := sketchesMatchUptoRow, standIns := [], harness := (true, "d5b4c5b13e6f2710a2cb662ce8480e31557b2373c652e738d697671e6e1f56ba"), looks := true }, kinds := [], alts := [], laidByText := true, laidKinds := [.data, .pinned], laidTests := true, laidLooks := .later }
def SketchesMatchUptoCardSaid : Prop := Claim7.holds Tryd.pinned (.plain (OpenSpec.upto sketchesMatchSpec)) sketchesMatchUptoCard

/-- THE SECOND FORM's CARD OF 'dyelaw1.FramesCheck'. -/
def framesCheckUptoCard : Claim7 := { stood := { row := framesCheckUptoRow, standIns := [], harness := (true, "d5b4c5b13e6f2710a2cb662ce8480e31557b2373c652e738d697671e6e1f56ba"), looks := true }, kinds := [], alts := [], laidByText := true, laidKinds := [.data, .data, .data], laidTests := true, laidLooks := .later }
def FramesCheckUptoCardSaid : Prop := Claim7.holds Tryd.pinned (.plain (OpenSpec.upto framesCheckSpec)) framesCheckUptoCard

/-- THE SECOND FORM's CARD OF 'dyelaw1.EditsAreTrimmed'. -/
def editsAreTrimmedUptoCard : Claim7 := { stood := { row := editsAreTrimmedUptoRow, standIns := [], harness := (true, "d5b4c5b13e6f2710a2cb662ce8480e31557b2373c652e738d697671e6e1f56ba"), looks := true }, kinds := [], alts := [], laidByText := true, laidKinds := [.data, .pinned], laidTests := true, laidLooks := .later }
def EditsAreTrimmedUptoCardSaid : Prop := Claim7.holds Tryd.pinned (.plain (OpenSpec.upto editsAreTrimmedSpec)) editsAreTrimmedUptoCard

/-- THE SECOND FORM's CARD OF 'dyelaw1.CodesMatch'. -/
def codesMatchUptoCard : Claim7 := { stood := { row := codesMatchUptoRow, standIns := [], harness := (true, "d5b4c5b13e6f2710a2cb662ce8480e31557b2373c652e738d697671e6e1f56ba"), looks := true }, kinds := [], alts := [], laidByText := true, laidKinds := [.data, .data, .data], laidTests := true, laidLooks := .later }
def CodesMatchUptoCardSaid : Prop := Claim7.holds Tryd.pinned (.plain (OpenSpec.upto codesMatchSpec)) codesMatchUptoCard

/-- THE SECOND FORM's CARD OF 'dyelaw1.EditsDiffer'. -/
def editsDifferUptoCard : Claim7 := { stood := { row := editsDifferUptoRow, standIns := [], harness := (true, "d5b4c5b13e6f2710a2cb662ce8480e31557b2373c652e738d697671e6e1f56ba"), looks := true }, kinds := [], alts := [], laidByText := true, laidKinds := [.data, .pinned], laidTests := true, laidLooks := .later }
def EditsDifferUptoCardSaid : Prop := Claim7.holds Tryd.pinned (.plain (OpenSpec.upto editsDifferSpec)) editsDifferUptoCard

/-- THE SECOND FORM's CARD OF 'dyelaw1.EditsMatch'. -/
def editsMatchUptoCard : Claim7 := { stood := { row := editsMatchUptoRow, standIns := [], harness := (true, "d5b4c5b13e6f2710a2cb662ce8480e31557b2373c652e738d697671e6e1f56ba"), looks := true }, kinds := [], alts := [], laidByText := true, laidKinds := [.data, .pinned], laidTests := true, laidLooks := .later }
def EditsMatchUptoCardSaid : Prop := Claim7.holds Tryd.pinned (.plain (OpenSpec.upto editsMatchSpec)) editsMatchUptoCard

/-- THE SECOND FORM's CARD OF 'dyelaw1.FramesParse'. -/
def framesParseUptoCard : Claim7 := { stood := { row := framesParseUptoRow, standIns := [], harness := (true, "d5b4c5b13e6f2710a2cb662ce8480e31557b2373c652e738d697671e6e1f56ba"), looks := true }, kinds := [], alts := [], laidByText := true, laidKinds := [.data, .data, .data, .data, .sentinel, .sentinel, .pinned], laidTests := true, laidLooks := .later }
def FramesParseUptoCardSaid : Prop := Claim7.holds Tryd.pinned (.plain (OpenSpec.upto framesParseSpec)) framesParseUptoCard

/-- THE SECOND FORM's CARD OF 'dyelaw1.FramesPrint'. -/
def framesPrintUptoCard : Claim7 := { stood := { row := framesPrintUptoRow, standIns := [], harness := (true, "d5b4c5b13e6f2710a2cb662ce8480e31557b2373c652e738d697671e6e1f56ba"), looks := true }, kinds := [], alts := [], laidByText := true, laidKinds := [.data, .data, .data, .data, .sentinel, .sentinel, .pinned], laidTests := true, laidLooks := .later }
def FramesPrintUptoCardSaid : Prop := Claim7.holds Tryd.pinned (.plain (OpenSpec.upto framesPrintSpec)) framesPrintUptoCard
end Rows
end Go.Proofs.YtapcgokcfmklbaaDoor
