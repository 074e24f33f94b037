/-
  DERIVED. GIVEN WITH THE SEED: THE CARDS: each row of YtockodmbhnlheaaGreatDoorRows.lean that lists a variable, with what it lists TIED to the program's text (the seventh form; the later family's looks); each row that meets fmt, with fmt's text TOLD by the authors' own Lean function (tested against real Go, not proved from fmt's source: count such statements apart). THE CARD IS WHAT COUNTS. Prove the row's statement (the work); the ties are given (YtockodmbhnlheaaGreatDoorTie.lean); close each card by the builder's one call (the guide's Derived/Test/ToyasCard.lean, 'card_holds'). Laid BY PROGRAM, IN A SANDBOX (cutbox-door.mjs). By AI agents, Wed Nov 11 2026. No macro, syntax, notation, axiom, sorry.
-/
import Derived.Test.YtockodmbhnlheaaGreatDoorRows
import GoSem.ClaimSeven
namespace Go.Proofs.YtockodmbhnlheaaGreatDoor
namespace Rows

/-- THE TIED CARD OF 'tollboothlaw.JournalHolds'. -/
def journalHoldsCard : Claim7 := { stood := { row := journalHoldsRow, standIns := [], harness := (true, "dc6f255a1334e05c28cafc820be5a92294e79b87af016be05460efd185adb7dd"), looks := true }, kinds := [], alts := [], laidByText := true, laidKinds := [.data, .data, .data, .data, .sentinel, .sentinel, .pinned], laidTests := true, laidLooks := .later }
def JournalHoldsCardSaid : Prop := Claim7.holds Tryz.pinned (.plain (OpenSpec.ofChange journalHoldsSpec)) journalHoldsCard

/-- THE SECOND FORM's CARD OF 'tollboothlaw.JournalHolds'. -/
def journalHoldsUptoCard : Claim7 := { stood := { row := journalHoldsUptoRow, standIns := [], harness := (true, "dc6f255a1334e05c28cafc820be5a92294e79b87af016be05460efd185adb7dd"), looks := true }, kinds := [], alts := [], laidByText := true, laidKinds := [.data, .data, .data, .data, .sentinel, .sentinel, .pinned], laidTests := true, laidLooks := .later }
def JournalHoldsUptoCardSaid : Prop := Claim7.holds Tryz.pinned (.plain (OpenSpec.upto journalHoldsSpec)) journalHoldsUptoCard
end Rows
end Go.Proofs.YtockodmbhnlheaaGreatDoor
