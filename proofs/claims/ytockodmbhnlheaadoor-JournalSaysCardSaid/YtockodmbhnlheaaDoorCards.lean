/-
  DERIVED. GIVEN WITH THE SEED: THE CARDS: each row of YtockodmbhnlheaaDoorRows.lean that lists a variable, with what it lists TIED to the program's text (the seventh form; the later family's looks); each row that meets fmt, with fmt's text TOLD by the authors' own Lean function (tested against real Go, not proved from fmt's source: count such statements apart). THE CARD IS WHAT COUNTS. Prove the row's statement (the work); the ties are given (YtockodmbhnlheaaDoorTie.lean); close each card by the builder's one call (the guide's Derived/Test/ToyasCard.lean, 'card_holds'). Laid BY PROGRAM, IN A SANDBOX (cutbox-door.mjs). By AI agents, Wed Nov 11 2026. No macro, syntax, notation, axiom, sorry.
-/
import Derived.Test.YtockodmbhnlheaaDoorRows
import GoSem.ClaimSeven
namespace Go.Proofs.YtockodmbhnlheaaDoor
namespace Rows

/-- THE TIED CARD OF 'tollboothlaw.TextBack'. -/
def textBackCard : Claim7 := { stood := { row := textBackRow, standIns := [], harness := (true, "23bebc9d4621dcfe8de93c5512ba0d12eb0c243eedb290c80e56f2286916fd7e"), looks := true }, kinds := [], alts := [], laidByText := true, laidKinds := [.data, .data, .data, .data, .sentinel, .sentinel, .pinned], laidTests := true, laidLooks := .later }
def TextBackCardSaid : Prop := Claim7.holds Tryd.pinned (.plain (OpenSpec.ofChange textBackSpec)) textBackCard

/-- THE TIED CARD OF 'tollboothlaw.JournalParts'. -/
def journalPartsCard : Claim7 := { stood := { row := journalPartsRow, standIns := [], harness := (true, "23bebc9d4621dcfe8de93c5512ba0d12eb0c243eedb290c80e56f2286916fd7e"), looks := true }, kinds := [], alts := [], laidByText := true, laidKinds := [.data, .data, .data, .data, .sentinel, .sentinel, .pinned], laidTests := true, laidLooks := .later }
def JournalPartsCardSaid : Prop := Claim7.holds Tryd.pinned (.plain (OpenSpec.ofChange journalPartsSpec)) journalPartsCard

/-- THE TIED CARD OF 'tollboothlaw.TextSays'. -/
def textSaysCard : Claim7 := { stood := { row := textSaysRow, standIns := [], harness := (true, "23bebc9d4621dcfe8de93c5512ba0d12eb0c243eedb290c80e56f2286916fd7e"), looks := true }, kinds := [], alts := [], laidByText := true, laidKinds := [.data, .data, .data, .data, .sentinel, .sentinel, .listed, .data, .pinned], laidTests := true, laidLooks := .later }
def TextSaysCardSaid : Prop := Claim7.holds Tryd.pinned (.plain (OpenSpec.ofChange textSaysSpec)) textSaysCard

/-- THE TIED CARD OF 'tollboothlaw.JournalSays'. -/
def journalSaysCard : Claim7 := { stood := { row := journalSaysRow, standIns := [], harness := (true, "23bebc9d4621dcfe8de93c5512ba0d12eb0c243eedb290c80e56f2286916fd7e"), looks := true }, kinds := [], alts := [], laidByText := true, laidKinds := [.data, .data, .data, .data, .sentinel, .sentinel, .listed, .data, .pinned], laidTests := true, laidLooks := .later }
def JournalSaysCardSaid : Prop := Claim7.holds Tryd.pinned (.plain (OpenSpec.ofChange journalSaysSpec)) journalSaysCard

/-- THE SECOND FORM's CARD OF 'tollboothlaw.TextBack'. -/
def textBackUptoCard : Claim7 := { stood := { row := textBackUptoRow, standIns := [], harness := (true, "23bebc9d4621dcfe8de93c5512ba0d12eb0c243eedb290c80e56f2286916fd7e"), looks := true }, kinds := [], alts := [], laidByText := true, laidKinds := [.data, .data, .data, .data, .sentinel, .sentinel, .pinned], laidTests := true, laidLooks := .later }
def TextBackUptoCardSaid : Prop := Claim7.holds Tryd.pinned (.plain (OpenSpec.upto textBackSpec)) textBackUptoCard

/-- THE SECOND FORM's CARD OF 'tollboothlaw.JournalParts'. -/
def journalPartsUptoCard : Claim7 := { stood := { row := journalPartsUptoRow, standIns := [], harness := (true, "23bebc9d4621dcfe8de93c5512ba0d12eb0c243eedb290c80e56f2286916fd7e"), looks := true }, kinds := [], alts := [], laidByText := true, laidKinds := [.data, .data, .data, .data, .sentinel, .sentinel, .pinned], laidTests := true, laidLooks := .later }
def JournalPartsUptoCardSaid : Prop := Claim7.holds Tryd.pinned (.plain (OpenSpec.upto journalPartsSpec)) journalPartsUptoCard

/-- THE SECOND FORM's CARD OF 'tollboothlaw.TextSays'. -/
def textSaysUptoCard : Claim7 := { stood := { row := textSaysUptoRow, standIns := [], harness := (true, "23bebc9d4621dcfe8de93c5512ba0d12eb0c243eedb290c80e56f2286916fd7e"), looks := true }, kinds := [], alts := [], laidByText := true, laidKinds := [.data, .data, .data, .data, .sentinel, .sentinel, .listed, .data, .pinned], laidTests := true, laidLooks := .later }
def TextSaysUptoCardSaid : Prop := Claim7.holds Tryd.pinned (.plain (OpenSpec.upto textSaysSpec)) textSaysUptoCard

/-- THE SECOND FORM's CARD OF 'tollboothlaw.JournalSays'. -/
def journalSaysUptoCard : Claim7 := { stood := { row := journalSaysUptoRow, standIns := [], harness := (true, "23bebc9d4621dcfe8de93c5512ba0d12eb0c243eedb290c80e56f2286916fd7e"), looks := true }, kinds := [], alts := [], laidByText := true, laidKinds := [.data, .data, .data, .data, .sentinel, .sentinel, .listed, .data, .pinned], laidTests := true, laidLooks := .later }
def JournalSaysUptoCardSaid : Prop := Claim7.holds Tryd.pinned (.plain (OpenSpec.upto journalSaysSpec)) journalSaysUptoCard
end Rows
end Go.Proofs.YtockodmbhnlheaaDoor
