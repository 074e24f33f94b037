/-
  No cell of these rows narrows 'for every input' (looked for: loops, veiled, ifaces, maps, wideKeys, modest, calm, conditions, laid).
  DERIVED. THE GIVEN ROWS OF THIS SEAT. 27 by the template 'for every input the law returns true; each argument reads behind the call as it read before'; 0 by the template 'total and deterministic' (their statements: YtockodmbhnlheaaTotals.lean).
  GIVEN WITH THE SEED: the statements are not yours to turn. If you find one false, say at which input.
  Laid BY PROGRAM, IN A SANDBOX (cutbox-rows.mjs): the forced cells as the released guide's own fill.sh prints them over the translation b484ea495a2f216e… (all of the seat's roots in one cut). By AI agents, Wed Nov 11 2026. No macro, syntax, notation, axiom, sorry.
-/
import Derived.Test.YtockodmbhnlheaaChecked
import GoSem.Claim
import GoSem.ClaimJoined
import GoSem.ClaimMapViews
import Derived.JoinedTies
import Derived.KernelRfl
namespace Go.Proofs.Ytockodmbhnlheaa
/- THE CELL 'sum', in the pinned program and in every row, IS THE sha256 OF THE DUMP (.gsa) THAT YtockodmbhnlheaaProg.lean LOADS. Nothing in Lean hashes anything: it is a label: what it is worth is what the hold of that sum in a sandbox is worth. -/
noncomputable def Try.pinned : Pinned := { name := "ytockodmbhnlheaa", sum := "b484ea495a2f216ee2561eabd47e60d2893b7819a86246f3053e8e8b4608cbc0", checked := Try.checked }
namespace Rows
def none {H : Type} : Left H := { results := [], args := [] }

/-- 'tollboothlaw.Names': WHATEVER THE INPUT: true; the input reads as it did. -/
def namesSpec : ChangeSpec := { name := "names", fn := fun _ => fun
  | [] => { results := [.lit (.bool true)], args := [] }
  | _ => none }
def namesRow : OpenClaim := { program := "ytockodmbhnlheaa", sum := "b484ea495a2f216ee2561eabd47e60d2893b7819a86246f3053e8e8b4608cbc0", func := "tollbooth/tollboothlaw.Names", spec := "names", apart := false }
def NamesSaid : Prop := namesRow.holds Try.pinned (OpenSpec.ofChange namesSpec)

/-- ITS FALSE NEIGHBOUR: 'it returns false'. Refute it at one input. -/
def namesWrong : ChangeSpec := { name := "names", fn := fun _ => fun
  | [] => { results := [.lit (.bool false)], args := [] }
  | _ => none }
def NamesWrongFalsely : Prop := namesRow.holds Try.pinned (OpenSpec.ofChange namesWrong)

/-- 'tollboothlaw.FixParts': WHATEVER THE INPUT: true; the input reads as it did. -/
def fixPartsSpec : ChangeSpec := { name := "fixParts", fn := fun _ => fun
  | [d1, d2, d3, d4] => { results := [.lit (.bool true)], args := [d1, d2, d3, d4] }
  | _ => none }
def fixPartsRow : OpenClaim := { program := "ytockodmbhnlheaa", sum := "b484ea495a2f216ee2561eabd47e60d2893b7819a86246f3053e8e8b4608cbc0", func := "tollbooth/tollboothlaw.FixParts", spec := "fixParts", apart := false }
def FixPartsSaid : Prop := fixPartsRow.holds Try.pinned (OpenSpec.ofChange fixPartsSpec)

/-- ITS FALSE NEIGHBOUR: 'it returns false'. Refute it at one input. -/
def fixPartsWrong : ChangeSpec := { name := "fixParts", fn := fun _ => fun
  | [d1, d2, d3, d4] => { results := [.lit (.bool false)], args := [d1, d2, d3, d4] }
  | _ => none }
def FixPartsWrongFalsely : Prop := fixPartsRow.holds Try.pinned (OpenSpec.ofChange fixPartsWrong)

/-- 'tollboothlaw.FixAdds': WHATEVER THE INPUT: true; the input reads as it did. -/
def fixAddsSpec : ChangeSpec := { name := "fixAdds", fn := fun _ => fun
  | [d1, d2] => { results := [.lit (.bool true)], args := [d1, d2] }
  | _ => none }
def fixAddsRow : OpenClaim := { program := "ytockodmbhnlheaa", sum := "b484ea495a2f216ee2561eabd47e60d2893b7819a86246f3053e8e8b4608cbc0", func := "tollbooth/tollboothlaw.FixAdds", spec := "fixAdds", apart := false }
def FixAddsSaid : Prop := fixAddsRow.holds Try.pinned (OpenSpec.ofChange fixAddsSpec)

/-- ITS FALSE NEIGHBOUR: 'it returns false'. Refute it at one input. -/
def fixAddsWrong : ChangeSpec := { name := "fixAdds", fn := fun _ => fun
  | [d1, d2] => { results := [.lit (.bool false)], args := [d1, d2] }
  | _ => none }
def FixAddsWrongFalsely : Prop := fixAddsRow.holds Try.pinned (OpenSpec.ofChange fixAddsWrong)

/-- 'tollboothlaw.FundNone': WHATEVER THE INPUT: true; the input reads as it did. -/
def fundNoneSpec : ChangeSpec := { name := "fundNone", fn := fun _ => fun
  | [d1, d2, d3, d4] => { results := [.lit (.bool true)], args := [d1, d2, d3, d4] }
  | _ => none }
def fundNoneRow : OpenClaim := { program := "ytockodmbhnlheaa", sum := "b484ea495a2f216ee2561eabd47e60d2893b7819a86246f3053e8e8b4608cbc0", func := "tollbooth/tollboothlaw.FundNone", spec := "fundNone", apart := false }
def FundNoneSaid : Prop := fundNoneRow.holds Try.pinned (OpenSpec.ofChange fundNoneSpec)

/-- ITS FALSE NEIGHBOUR: 'it returns false'. Refute it at one input. -/
def fundNoneWrong : ChangeSpec := { name := "fundNone", fn := fun _ => fun
  | [d1, d2, d3, d4] => { results := [.lit (.bool false)], args := [d1, d2, d3, d4] }
  | _ => none }
def FundNoneWrongFalsely : Prop := fundNoneRow.holds Try.pinned (OpenSpec.ofChange fundNoneWrong)

/-- 'tollboothlaw.FundEven': WHATEVER THE INPUT: true; the input reads as it did. -/
def fundEvenSpec : ChangeSpec := { name := "fundEven", fn := fun _ => fun
  | [d1, d2, d3, d4] => { results := [.lit (.bool true)], args := [d1, d2, d3, d4] }
  | _ => none }
def fundEvenRow : OpenClaim := { program := "ytockodmbhnlheaa", sum := "b484ea495a2f216ee2561eabd47e60d2893b7819a86246f3053e8e8b4608cbc0", func := "tollbooth/tollboothlaw.FundEven", spec := "fundEven", apart := false }
def FundEvenSaid : Prop := fundEvenRow.holds Try.pinned (OpenSpec.ofChange fundEvenSpec)

/-- ITS FALSE NEIGHBOUR: 'it returns false'. Refute it at one input. -/
def fundEvenWrong : ChangeSpec := { name := "fundEven", fn := fun _ => fun
  | [d1, d2, d3, d4] => { results := [.lit (.bool false)], args := [d1, d2, d3, d4] }
  | _ => none }
def FundEvenWrongFalsely : Prop := fundEvenRow.holds Try.pinned (OpenSpec.ofChange fundEvenWrong)

/-- 'tollboothlaw.AccountEven': WHATEVER THE INPUT: true; the input reads as it did. -/
def accountEvenSpec : ChangeSpec := { name := "accountEven", fn := fun _ => fun
  | [d1, d2, d3, d4, d5, d6, d7] => { results := [.lit (.bool true)], args := [d1, d2, d3, d4, d5, d6, d7] }
  | _ => none }
def accountEvenRow : OpenClaim := { program := "ytockodmbhnlheaa", sum := "b484ea495a2f216ee2561eabd47e60d2893b7819a86246f3053e8e8b4608cbc0", func := "tollbooth/tollboothlaw.AccountEven", spec := "accountEven", apart := false }
def AccountEvenSaid : Prop := accountEvenRow.holds Try.pinned (OpenSpec.ofChange accountEvenSpec)

/-- ITS FALSE NEIGHBOUR: 'it returns false'. Refute it at one input. -/
def accountEvenWrong : ChangeSpec := { name := "accountEven", fn := fun _ => fun
  | [d1, d2, d3, d4, d5, d6, d7] => { results := [.lit (.bool false)], args := [d1, d2, d3, d4, d5, d6, d7] }
  | _ => none }
def AccountEvenWrongFalsely : Prop := accountEvenRow.holds Try.pinned (OpenSpec.ofChange accountEvenWrong)

/-- 'tollboothlaw.AccountSays': WHATEVER THE INPUT: true; the input reads as it did. -/
def accountSaysSpec : ChangeSpec := { name := "accountSays", fn := fun _ => fun
  | [d1, d2, d3, d4, d5, d6, d7, d8] => { results := [.lit (.bool true)], args := [d1, d2, d3, d4, d5, d6, d7, d8] }
  | _ => none }
def accountSaysRow : OpenClaim := { program := "ytockodmbhnlheaa", sum := "b484ea495a2f216ee2561eabd47e60d2893b7819a86246f3053e8e8b4608cbc0", func := "tollbooth/tollboothlaw.AccountSays", spec := "accountSays", apart := false }
def AccountSaysSaid : Prop := accountSaysRow.holds Try.pinned (OpenSpec.ofChange accountSaysSpec)

/-- ITS FALSE NEIGHBOUR: 'it returns false'. Refute it at one input. -/
def accountSaysWrong : ChangeSpec := { name := "accountSays", fn := fun _ => fun
  | [d1, d2, d3, d4, d5, d6, d7, d8] => { results := [.lit (.bool false)], args := [d1, d2, d3, d4, d5, d6, d7, d8] }
  | _ => none }
def AccountSaysWrongFalsely : Prop := accountSaysRow.holds Try.pinned (OpenSpec.ofChange accountSaysWrong)

/-- 'tollboothlaw.FundSays': WHATEVER THE INPUT: true; the input reads as it did. -/
def fundSaysSpec : ChangeSpec := { name := "fundSays", fn := fun _ => fun
  | [d1, d2, d3, d4] => { results := [.lit (.bool true)], args := [d1, d2, d3, d4] }
  | _ => none }
def fundSaysRow : OpenClaim := { program := "ytockodmbhnlheaa", sum := "b484ea495a2f216ee2561eabd47e60d2893b7819a86246f3053e8e8b4608cbc0", func := "tollbooth/tollboothlaw.FundSays", spec := "fundSays", unfollowed := true, recurses := true, apart := false }
def FundSaysSaid : Prop := fundSaysRow.holds Try.pinned (OpenSpec.ofChange fundSaysSpec)

/-- ITS FALSE NEIGHBOUR: 'it returns false'. Refute it at one input. -/
def fundSaysWrong : ChangeSpec := { name := "fundSays", fn := fun _ => fun
  | [d1, d2, d3, d4] => { results := [.lit (.bool false)], args := [d1, d2, d3, d4] }
  | _ => none }
def FundSaysWrongFalsely : Prop := fundSaysRow.holds Try.pinned (OpenSpec.ofChange fundSaysWrong)

/-- 'tollboothlaw.AccountFlat': WHATEVER THE INPUT: true; the input reads as it did. -/
def accountFlatSpec : ChangeSpec := { name := "accountFlat", fn := fun _ => fun
  | [d1, d2, d3] => { results := [.lit (.bool true)], args := [d1, d2, d3] }
  | _ => none }
def accountFlatRow : OpenClaim := { program := "ytockodmbhnlheaa", sum := "b484ea495a2f216ee2561eabd47e60d2893b7819a86246f3053e8e8b4608cbc0", func := "tollbooth/tollboothlaw.AccountFlat", spec := "accountFlat", apart := false }
def AccountFlatSaid : Prop := accountFlatRow.holds Try.pinned (OpenSpec.ofChange accountFlatSpec)

/-- ITS FALSE NEIGHBOUR: 'it returns false'. Refute it at one input. -/
def accountFlatWrong : ChangeSpec := { name := "accountFlat", fn := fun _ => fun
  | [d1, d2, d3] => { results := [.lit (.bool false)], args := [d1, d2, d3] }
  | _ => none }
def AccountFlatWrongFalsely : Prop := accountFlatRow.holds Try.pinned (OpenSpec.ofChange accountFlatWrong)

/-- 'tollboothlaw.RiskGrows': WHATEVER THE INPUT: true; the input reads as it did. -/
def riskGrowsSpec : ChangeSpec := { name := "riskGrows", fn := fun _ => fun
  | [d1, d2, d3, d4] => { results := [.lit (.bool true)], args := [d1, d2, d3, d4] }
  | _ => none }
def riskGrowsRow : OpenClaim := { program := "ytockodmbhnlheaa", sum := "b484ea495a2f216ee2561eabd47e60d2893b7819a86246f3053e8e8b4608cbc0", func := "tollbooth/tollboothlaw.RiskGrows", spec := "riskGrows", apart := false }
def RiskGrowsSaid : Prop := riskGrowsRow.holds Try.pinned (OpenSpec.ofChange riskGrowsSpec)

/-- ITS FALSE NEIGHBOUR: 'it returns false'. Refute it at one input. -/
def riskGrowsWrong : ChangeSpec := { name := "riskGrows", fn := fun _ => fun
  | [d1, d2, d3, d4] => { results := [.lit (.bool false)], args := [d1, d2, d3, d4] }
  | _ => none }
def RiskGrowsWrongFalsely : Prop := riskGrowsRow.holds Try.pinned (OpenSpec.ofChange riskGrowsWrong)

/-- 'tollboothlaw.RiskHolds': WHATEVER THE INPUT: true; the input reads as it did. -/
def riskHoldsSpec : ChangeSpec := { name := "riskHolds", fn := fun _ => fun
  | [d1, d2, d3, d4] => { results := [.lit (.bool true)], args := [d1, d2, d3, d4] }
  | _ => none }
def riskHoldsRow : OpenClaim := { program := "ytockodmbhnlheaa", sum := "b484ea495a2f216ee2561eabd47e60d2893b7819a86246f3053e8e8b4608cbc0", func := "tollbooth/tollboothlaw.RiskHolds", spec := "riskHolds", apart := false }
def RiskHoldsSaid : Prop := riskHoldsRow.holds Try.pinned (OpenSpec.ofChange riskHoldsSpec)

/-- ITS FALSE NEIGHBOUR: 'it returns false'. Refute it at one input. -/
def riskHoldsWrong : ChangeSpec := { name := "riskHolds", fn := fun _ => fun
  | [d1, d2, d3, d4] => { results := [.lit (.bool false)], args := [d1, d2, d3, d4] }
  | _ => none }
def RiskHoldsWrongFalsely : Prop := riskHoldsRow.holds Try.pinned (OpenSpec.ofChange riskHoldsWrong)

/-- 'tollboothlaw.BookOrder': WHATEVER THE INPUT: true; the input reads as it did. -/
def bookOrderSpec : ChangeSpec := { name := "bookOrder", fn := fun _ => fun
  | [d1, d2] => { results := [.lit (.bool true)], args := [d1, d2] }
  | _ => none }
def bookOrderRow : OpenClaim := { program := "ytockodmbhnlheaa", sum := "b484ea495a2f216ee2561eabd47e60d2893b7819a86246f3053e8e8b4608cbc0", func := "tollbooth/tollboothlaw.BookOrder", spec := "bookOrder", inPlace := ["slices.overlaps[tollbooth/api.Order]"], unfollowed := true, recurses := true, apart := false }
def BookOrderSaid : Prop := bookOrderRow.holds Try.pinned (OpenSpec.ofChange bookOrderSpec)

/-- ITS FALSE NEIGHBOUR: 'it returns false'. Refute it at one input. -/
def bookOrderWrong : ChangeSpec := { name := "bookOrder", fn := fun _ => fun
  | [d1, d2] => { results := [.lit (.bool false)], args := [d1, d2] }
  | _ => none }
def BookOrderWrongFalsely : Prop := bookOrderRow.holds Try.pinned (OpenSpec.ofChange bookOrderWrong)

/-- 'tollboothlaw.BookBack': WHATEVER THE INPUT: true; the input reads as it did. -/
def bookBackSpec : ChangeSpec := { name := "bookBack", fn := fun _ => fun
  | [d1, d2, d3] => { results := [.lit (.bool true)], args := [d1, d2, d3] }
  | _ => none }
def bookBackRow : OpenClaim := { program := "ytockodmbhnlheaa", sum := "b484ea495a2f216ee2561eabd47e60d2893b7819a86246f3053e8e8b4608cbc0", func := "tollbooth/tollboothlaw.BookBack", spec := "bookBack", inPlace := ["slices.overlaps[tollbooth/api.Order]"], unfollowed := true, recurses := true, apart := false }
def BookBackSaid : Prop := bookBackRow.holds Try.pinned (OpenSpec.ofChange bookBackSpec)

/-- ITS FALSE NEIGHBOUR: 'it returns false'. Refute it at one input. -/
def bookBackWrong : ChangeSpec := { name := "bookBack", fn := fun _ => fun
  | [d1, d2, d3] => { results := [.lit (.bool false)], args := [d1, d2, d3] }
  | _ => none }
def BookBackWrongFalsely : Prop := bookBackRow.holds Try.pinned (OpenSpec.ofChange bookBackWrong)

/-- 'tollboothlaw.MatchParts': WHATEVER THE INPUT: true; the input reads as it did. -/
def matchPartsSpec : ChangeSpec := { name := "matchParts", fn := fun _ => fun
  | [d1, d2, d3] => { results := [.lit (.bool true)], args := [d1, d2, d3] }
  | _ => none }
def matchPartsRow : OpenClaim := { program := "ytockodmbhnlheaa", sum := "b484ea495a2f216ee2561eabd47e60d2893b7819a86246f3053e8e8b4608cbc0", func := "tollbooth/tollboothlaw.MatchParts", spec := "matchParts", inPlace := ["slices.overlaps[tollbooth/api.Order]"], unfollowed := true, recurses := true, apart := false }
def MatchPartsSaid : Prop := matchPartsRow.holds Try.pinned (OpenSpec.ofChange matchPartsSpec)

/-- ITS FALSE NEIGHBOUR: 'it returns false'. Refute it at one input. -/
def matchPartsWrong : ChangeSpec := { name := "matchParts", fn := fun _ => fun
  | [d1, d2, d3] => { results := [.lit (.bool false)], args := [d1, d2, d3] }
  | _ => none }
def MatchPartsWrongFalsely : Prop := matchPartsRow.holds Try.pinned (OpenSpec.ofChange matchPartsWrong)

/-- 'tollboothlaw.FixSays': WHATEVER THE INPUT: true; the input reads as it did. -/
def fixSaysSpec : ChangeSpec := { name := "fixSays", fn := fun _ => fun
  | [d1, d2, d3, d4, d5, d6, d7] => { results := [.lit (.bool true)], args := [d1, d2, d3, d4, d5, d6, d7] }
  | _ => none }
def fixSaysRow : OpenClaim := { program := "ytockodmbhnlheaa", sum := "b484ea495a2f216ee2561eabd47e60d2893b7819a86246f3053e8e8b4608cbc0", func := "tollbooth/tollboothlaw.FixSays", spec := "fixSays", recurses := true, apart := false }
def FixSaysSaid : Prop := fixSaysRow.holds Try.pinned (OpenSpec.ofChange fixSaysSpec)

/-- ITS FALSE NEIGHBOUR: 'it returns false'. Refute it at one input. -/
def fixSaysWrong : ChangeSpec := { name := "fixSays", fn := fun _ => fun
  | [d1, d2, d3, d4, d5, d6, d7] => { results := [.lit (.bool false)], args := [d1, d2, d3, d4, d5, d6, d7] }
  | _ => none }
def FixSaysWrongFalsely : Prop := fixSaysRow.holds Try.pinned (OpenSpec.ofChange fixSaysWrong)

/-- 'tollboothlaw.MatchFair': WHATEVER THE INPUT: true; the input reads as it did. -/
def matchFairSpec : ChangeSpec := { name := "matchFair", fn := fun _ => fun
  | [d1, d2, d3] => { results := [.lit (.bool true)], args := [d1, d2, d3] }
  | _ => none }
def matchFairRow : OpenClaim := { program := "ytockodmbhnlheaa", sum := "b484ea495a2f216ee2561eabd47e60d2893b7819a86246f3053e8e8b4608cbc0", func := "tollbooth/tollboothlaw.MatchFair", spec := "matchFair", inPlace := ["slices.overlaps[tollbooth/api.Order]"], unfollowed := true, recurses := true, apart := false }
def MatchFairSaid : Prop := matchFairRow.holds Try.pinned (OpenSpec.ofChange matchFairSpec)

/-- ITS FALSE NEIGHBOUR: 'it returns false'. Refute it at one input. -/
def matchFairWrong : ChangeSpec := { name := "matchFair", fn := fun _ => fun
  | [d1, d2, d3] => { results := [.lit (.bool false)], args := [d1, d2, d3] }
  | _ => none }
def MatchFairWrongFalsely : Prop := matchFairRow.holds Try.pinned (OpenSpec.ofChange matchFairWrong)

/-- 'tollboothlaw.BookSays': WHATEVER THE INPUT: true; the input reads as it did. -/
def bookSaysSpec : ChangeSpec := { name := "bookSays", fn := fun _ => fun
  | [d1, d2, d3, d4, d5] => { results := [.lit (.bool true)], args := [d1, d2, d3, d4, d5] }
  | _ => none }
def bookSaysRow : OpenClaim := { program := "ytockodmbhnlheaa", sum := "b484ea495a2f216ee2561eabd47e60d2893b7819a86246f3053e8e8b4608cbc0", func := "tollbooth/tollboothlaw.BookSays", spec := "bookSays", inPlace := ["slices.overlaps[tollbooth/api.Order]", "internal/reflectlite.ValueOf", "internal/reflectlite.Swapper", "(internal/reflectlite.Value).Len"], unfollowed := true, recurses := true, apart := false }
def BookSaysSaid : Prop := bookSaysRow.holds Try.pinned (OpenSpec.ofChange bookSaysSpec)

/-- ITS FALSE NEIGHBOUR: 'it returns false'. Refute it at one input. -/
def bookSaysWrong : ChangeSpec := { name := "bookSays", fn := fun _ => fun
  | [d1, d2, d3, d4, d5] => { results := [.lit (.bool false)], args := [d1, d2, d3, d4, d5] }
  | _ => none }
def BookSaysWrongFalsely : Prop := bookSaysRow.holds Try.pinned (OpenSpec.ofChange bookSaysWrong)

/-- 'tollboothlaw.MatchSays': WHATEVER THE INPUT: true; the input reads as it did. -/
def matchSaysSpec : ChangeSpec := { name := "matchSays", fn := fun _ => fun
  | [d1, d2, d3] => { results := [.lit (.bool true)], args := [d1, d2, d3] }
  | _ => none }
def matchSaysRow : OpenClaim := { program := "ytockodmbhnlheaa", sum := "b484ea495a2f216ee2561eabd47e60d2893b7819a86246f3053e8e8b4608cbc0", func := "tollbooth/tollboothlaw.MatchSays", spec := "matchSays", inPlace := ["slices.overlaps[tollbooth/api.Order]", "internal/reflectlite.ValueOf", "internal/reflectlite.Swapper", "(internal/reflectlite.Value).Len"], unfollowed := true, recurses := true, apart := false }
def MatchSaysSaid : Prop := matchSaysRow.holds Try.pinned (OpenSpec.ofChange matchSaysSpec)

/-- ITS FALSE NEIGHBOUR: 'it returns false'. Refute it at one input. -/
def matchSaysWrong : ChangeSpec := { name := "matchSays", fn := fun _ => fun
  | [d1, d2, d3] => { results := [.lit (.bool false)], args := [d1, d2, d3] }
  | _ => none }
def MatchSaysWrongFalsely : Prop := matchSaysRow.holds Try.pinned (OpenSpec.ofChange matchSaysWrong)

/-- 'tollboothlaw.RiskSays': WHATEVER THE INPUT: true; the input reads as it did. -/
def riskSaysSpec : ChangeSpec := { name := "riskSays", fn := fun _ => fun
  | [d1, d2, d3, d4] => { results := [.lit (.bool true)], args := [d1, d2, d3, d4] }
  | _ => none }
def riskSaysRow : OpenClaim := { program := "ytockodmbhnlheaa", sum := "b484ea495a2f216ee2561eabd47e60d2893b7819a86246f3053e8e8b4608cbc0", func := "tollbooth/tollboothlaw.RiskSays", spec := "riskSays", recurses := true, apart := false }
def RiskSaysSaid : Prop := riskSaysRow.holds Try.pinned (OpenSpec.ofChange riskSaysSpec)

/-- ITS FALSE NEIGHBOUR: 'it returns false'. Refute it at one input. -/
def riskSaysWrong : ChangeSpec := { name := "riskSays", fn := fun _ => fun
  | [d1, d2, d3, d4] => { results := [.lit (.bool false)], args := [d1, d2, d3, d4] }
  | _ => none }
def RiskSaysWrongFalsely : Prop := riskSaysRow.holds Try.pinned (OpenSpec.ofChange riskSaysWrong)

/-- 'tollboothlaw.VenueReady': WHATEVER THE INPUT: true; the input reads as it did. -/
def venueReadySpec : ChangeSpec := { name := "venueReady", fn := fun _ => fun
  | [d1, d2] => { results := [.lit (.bool true)], args := [d1, d2] }
  | _ => none }
def venueReadyRow : OpenClaim := { program := "ytockodmbhnlheaa", sum := "b484ea495a2f216ee2561eabd47e60d2893b7819a86246f3053e8e8b4608cbc0", func := "tollbooth/tollboothlaw.VenueReady", spec := "venueReady", inPlace := ["slices.overlaps[tollbooth/api.Account]", "slices.overlaps[tollbooth/api.Order]"], unfollowed := true, recurses := true, apart := false }
def VenueReadySaid : Prop := venueReadyRow.holds Try.pinned (OpenSpec.ofChange venueReadySpec)

/-- ITS FALSE NEIGHBOUR: 'it returns false'. Refute it at one input. -/
def venueReadyWrong : ChangeSpec := { name := "venueReady", fn := fun _ => fun
  | [d1, d2] => { results := [.lit (.bool false)], args := [d1, d2] }
  | _ => none }
def VenueReadyWrongFalsely : Prop := venueReadyRow.holds Try.pinned (OpenSpec.ofChange venueReadyWrong)

/-- 'tollboothlaw.VenueFills': WHATEVER THE INPUT: true; the input reads as it did. -/
def venueFillsSpec : ChangeSpec := { name := "venueFills", fn := fun _ => fun
  | [d1, d2] => { results := [.lit (.bool true)], args := [d1, d2] }
  | _ => none }
def venueFillsRow : OpenClaim := { program := "ytockodmbhnlheaa", sum := "b484ea495a2f216ee2561eabd47e60d2893b7819a86246f3053e8e8b4608cbc0", func := "tollbooth/tollboothlaw.VenueFills", spec := "venueFills", inPlace := ["slices.overlaps[tollbooth/api.Account]", "slices.overlaps[tollbooth/api.Order]"], unfollowed := true, recurses := true, apart := false }
def VenueFillsSaid : Prop := venueFillsRow.holds Try.pinned (OpenSpec.ofChange venueFillsSpec)

/-- ITS FALSE NEIGHBOUR: 'it returns false'. Refute it at one input. -/
def venueFillsWrong : ChangeSpec := { name := "venueFills", fn := fun _ => fun
  | [d1, d2] => { results := [.lit (.bool false)], args := [d1, d2] }
  | _ => none }
def VenueFillsWrongFalsely : Prop := venueFillsRow.holds Try.pinned (OpenSpec.ofChange venueFillsWrong)

/-- 'tollboothlaw.VenueOthers': WHATEVER THE INPUT: true; the input reads as it did. -/
def venueOthersSpec : ChangeSpec := { name := "venueOthers", fn := fun _ => fun
  | [d1, d2] => { results := [.lit (.bool true)], args := [d1, d2] }
  | _ => none }
def venueOthersRow : OpenClaim := { program := "ytockodmbhnlheaa", sum := "b484ea495a2f216ee2561eabd47e60d2893b7819a86246f3053e8e8b4608cbc0", func := "tollbooth/tollboothlaw.VenueOthers", spec := "venueOthers", inPlace := ["slices.overlaps[tollbooth/api.Account]", "slices.overlaps[tollbooth/api.Order]"], unfollowed := true, recurses := true, apart := false }
def VenueOthersSaid : Prop := venueOthersRow.holds Try.pinned (OpenSpec.ofChange venueOthersSpec)

/-- ITS FALSE NEIGHBOUR: 'it returns false'. Refute it at one input. -/
def venueOthersWrong : ChangeSpec := { name := "venueOthers", fn := fun _ => fun
  | [d1, d2] => { results := [.lit (.bool false)], args := [d1, d2] }
  | _ => none }
def VenueOthersWrongFalsely : Prop := venueOthersRow.holds Try.pinned (OpenSpec.ofChange venueOthersWrong)

/-- 'tollboothlaw.VenueKeeps': WHATEVER THE INPUT: true; the input reads as it did. -/
def venueKeepsSpec : ChangeSpec := { name := "venueKeeps", fn := fun _ => fun
  | [d1, d2] => { results := [.lit (.bool true)], args := [d1, d2] }
  | _ => none }
def venueKeepsRow : OpenClaim := { program := "ytockodmbhnlheaa", sum := "b484ea495a2f216ee2561eabd47e60d2893b7819a86246f3053e8e8b4608cbc0", func := "tollbooth/tollboothlaw.VenueKeeps", spec := "venueKeeps", inPlace := ["slices.overlaps[tollbooth/api.Account]", "slices.overlaps[tollbooth/api.Order]"], unfollowed := true, recurses := true, apart := false }
def VenueKeepsSaid : Prop := venueKeepsRow.holds Try.pinned (OpenSpec.ofChange venueKeepsSpec)

/-- ITS FALSE NEIGHBOUR: 'it returns false'. Refute it at one input. -/
def venueKeepsWrong : ChangeSpec := { name := "venueKeeps", fn := fun _ => fun
  | [d1, d2] => { results := [.lit (.bool false)], args := [d1, d2] }
  | _ => none }
def VenueKeepsWrongFalsely : Prop := venueKeepsRow.holds Try.pinned (OpenSpec.ofChange venueKeepsWrong)

/-- 'tollboothlaw.VenueSweeps': WHATEVER THE INPUT: true; the input reads as it did. -/
def venueSweepsSpec : ChangeSpec := { name := "venueSweeps", fn := fun _ => fun
  | [d] => { results := [.lit (.bool true)], args := [d] }
  | _ => none }
def venueSweepsRow : OpenClaim := { program := "ytockodmbhnlheaa", sum := "b484ea495a2f216ee2561eabd47e60d2893b7819a86246f3053e8e8b4608cbc0", func := "tollbooth/tollboothlaw.VenueSweeps", spec := "venueSweeps", inPlace := ["slices.overlaps[tollbooth/api.Account]", "slices.overlaps[tollbooth/api.Order]"], unfollowed := true, recurses := true, apart := false }
def VenueSweepsSaid : Prop := venueSweepsRow.holds Try.pinned (OpenSpec.ofChange venueSweepsSpec)

/-- ITS FALSE NEIGHBOUR: 'it returns false'. Refute it at one input. -/
def venueSweepsWrong : ChangeSpec := { name := "venueSweeps", fn := fun _ => fun
  | [d] => { results := [.lit (.bool false)], args := [d] }
  | _ => none }
def VenueSweepsWrongFalsely : Prop := venueSweepsRow.holds Try.pinned (OpenSpec.ofChange venueSweepsWrong)

/-- 'tollboothlaw.VenueCancels': WHATEVER THE INPUT: true; the input reads as it did. -/
def venueCancelsSpec : ChangeSpec := { name := "venueCancels", fn := fun _ => fun
  | [d1, d2, d3] => { results := [.lit (.bool true)], args := [d1, d2, d3] }
  | _ => none }
def venueCancelsRow : OpenClaim := { program := "ytockodmbhnlheaa", sum := "b484ea495a2f216ee2561eabd47e60d2893b7819a86246f3053e8e8b4608cbc0", func := "tollbooth/tollboothlaw.VenueCancels", spec := "venueCancels", inPlace := ["slices.overlaps[tollbooth/api.Account]", "slices.overlaps[tollbooth/api.Order]"], unfollowed := true, recurses := true, apart := false }
def VenueCancelsSaid : Prop := venueCancelsRow.holds Try.pinned (OpenSpec.ofChange venueCancelsSpec)

/-- ITS FALSE NEIGHBOUR: 'it returns false'. Refute it at one input. -/
def venueCancelsWrong : ChangeSpec := { name := "venueCancels", fn := fun _ => fun
  | [d1, d2, d3] => { results := [.lit (.bool false)], args := [d1, d2, d3] }
  | _ => none }
def VenueCancelsWrongFalsely : Prop := venueCancelsRow.holds Try.pinned (OpenSpec.ofChange venueCancelsWrong)

/-- 'tollboothlaw.VenueCash': WHATEVER THE INPUT: true; the input reads as it did. -/
def venueCashSpec : ChangeSpec := { name := "venueCash", fn := fun _ => fun
  | [d1, d2, d3] => { results := [.lit (.bool true)], args := [d1, d2, d3] }
  | _ => none }
def venueCashRow : OpenClaim := { program := "ytockodmbhnlheaa", sum := "b484ea495a2f216ee2561eabd47e60d2893b7819a86246f3053e8e8b4608cbc0", func := "tollbooth/tollboothlaw.VenueCash", spec := "venueCash", inPlace := ["slices.overlaps[tollbooth/api.Account]", "slices.overlaps[tollbooth/api.Order]"], unfollowed := true, recurses := true, apart := false }
def VenueCashSaid : Prop := venueCashRow.holds Try.pinned (OpenSpec.ofChange venueCashSpec)

/-- ITS FALSE NEIGHBOUR: 'it returns false'. Refute it at one input. -/
def venueCashWrong : ChangeSpec := { name := "venueCash", fn := fun _ => fun
  | [d1, d2, d3] => { results := [.lit (.bool false)], args := [d1, d2, d3] }
  | _ => none }
def VenueCashWrongFalsely : Prop := venueCashRow.holds Try.pinned (OpenSpec.ofChange venueCashWrong)

/-- 'tollboothlaw.VenueParts': WHATEVER THE INPUT: true; the input reads as it did. -/
def venuePartsSpec : ChangeSpec := { name := "venueParts", fn := fun _ => fun
  | [d1, d2, d3] => { results := [.lit (.bool true)], args := [d1, d2, d3] }
  | _ => none }
def venuePartsRow : OpenClaim := { program := "ytockodmbhnlheaa", sum := "b484ea495a2f216ee2561eabd47e60d2893b7819a86246f3053e8e8b4608cbc0", func := "tollbooth/tollboothlaw.VenueParts", spec := "venueParts", inPlace := ["slices.overlaps[tollbooth/api.Account]", "slices.overlaps[tollbooth/api.Order]"], unfollowed := true, recurses := true, apart := false }
def VenuePartsSaid : Prop := venuePartsRow.holds Try.pinned (OpenSpec.ofChange venuePartsSpec)

/-- ITS FALSE NEIGHBOUR: 'it returns false'. Refute it at one input. -/
def venuePartsWrong : ChangeSpec := { name := "venueParts", fn := fun _ => fun
  | [d1, d2, d3] => { results := [.lit (.bool false)], args := [d1, d2, d3] }
  | _ => none }
def VenuePartsWrongFalsely : Prop := venuePartsRow.holds Try.pinned (OpenSpec.ofChange venuePartsWrong)

/- THE SECOND FORM. 'bulk': how many values and letters a reading holds, each counted each time it is reached (what is shared counts as often as it is met; a slice's spare places count too). A statement '..UptoSaid' is the law's where the arguments, and the package variables that the reading takes, are together of bulk at most 1048576: NARROWER than '..Said'. Prove '..Said' where nothing that the law and all that it calls make is longer than what came in: it says more and counts as full. Else prove '..UptoSaid'. A law counts once. -/
mutual
def uptoBulk {H : Type} : DataW H → Nat
  | .lit (.string bytes) => bytes.length + 1
  | .lit _ => 1
  | .nil => 1
  | .ptr d => uptoBulk d + 1
  | .slice elems spare => uptoBulkAll elems + uptoBulkAll spare + 1
  | .agg parts => uptoBulkAll parts + 1
  | .iface _ d => uptoBulk d + 1
  | .map entries => uptoBulkEntries entries + 1
  | .held _ => 1
def uptoBulkAll {H : Type} : List (DataW H) → Nat
  | [] => 0
  | d :: r => uptoBulk d + uptoBulkAll r
def uptoBulkEntries {H : Type} : List (Lit × DataW H) → Nat
  | [] => 0
  | x :: r => uptoBulkEntry x + uptoBulkEntries r
def uptoBulkEntry {H : Type} : Lit × DataW H → Nat
  | (.string bytes, d) => bytes.length + uptoBulk d + 1
  | (_, d) => uptoBulk d + 1
 end
def uptoSmall : (H : Type) → List (DataW H) → Bool := fun _ ds => decide (uptoBulkAll ds ≤ 1048576)
def OpenSpec.upto (s : _root_.Go.ChangeSpec) : _root_.Go.OpenSpec := { _root_.Go.OpenSpec.ofChange s with cond := some uptoSmall }

/-- 'tollboothlaw.Names', WHERE WHAT IT READS IS OF BULK AT MOST 1048576: true; the input reads as it did. -/
def namesUptoRow : OpenClaim := { program := "ytockodmbhnlheaa", sum := "b484ea495a2f216ee2561eabd47e60d2893b7819a86246f3053e8e8b4608cbc0", func := "tollbooth/tollboothlaw.Names", spec := "names", apart := false, narrowed := true }
def NamesUptoSaid : Prop := namesUptoRow.holds Try.pinned (OpenSpec.upto namesSpec)

/-- 'tollboothlaw.FixParts', WHERE WHAT IT READS IS OF BULK AT MOST 1048576: true; the input reads as it did. -/
def fixPartsUptoRow : OpenClaim := { program := "ytockodmbhnlheaa", sum := "b484ea495a2f216ee2561eabd47e60d2893b7819a86246f3053e8e8b4608cbc0", func := "tollbooth/tollboothlaw.FixParts", spec := "fixParts", apart := false, narrowed := true }
def FixPartsUptoSaid : Prop := fixPartsUptoRow.holds Try.pinned (OpenSpec.upto fixPartsSpec)

/-- 'tollboothlaw.FixAdds', WHERE WHAT IT READS IS OF BULK AT MOST 1048576: true; the input reads as it did. -/
def fixAddsUptoRow : OpenClaim := { program := "ytockodmbhnlheaa", sum := "b484ea495a2f216ee2561eabd47e60d2893b7819a86246f3053e8e8b4608cbc0", func := "tollbooth/tollboothlaw.FixAdds", spec := "fixAdds", apart := false, narrowed := true }
def FixAddsUptoSaid : Prop := fixAddsUptoRow.holds Try.pinned (OpenSpec.upto fixAddsSpec)

/-- 'tollboothlaw.FundNone', WHERE WHAT IT READS IS OF BULK AT MOST 1048576: true; the input reads as it did. -/
def fundNoneUptoRow : OpenClaim := { program := "ytockodmbhnlheaa", sum := "b484ea495a2f216ee2561eabd47e60d2893b7819a86246f3053e8e8b4608cbc0", func := "tollbooth/tollboothlaw.FundNone", spec := "fundNone", apart := false, narrowed := true }
def FundNoneUptoSaid : Prop := fundNoneUptoRow.holds Try.pinned (OpenSpec.upto fundNoneSpec)

/-- 'tollboothlaw.FundEven', WHERE WHAT IT READS IS OF BULK AT MOST 1048576: true; the input reads as it did. -/
def fundEvenUptoRow : OpenClaim := { program := "ytockodmbhnlheaa", sum := "b484ea495a2f216ee2561eabd47e60d2893b7819a86246f3053e8e8b4608cbc0", func := "tollbooth/tollboothlaw.FundEven", spec := "fundEven", apart := false, narrowed := true }
def FundEvenUptoSaid : Prop := fundEvenUptoRow.holds Try.pinned (OpenSpec.upto fundEvenSpec)

/-- 'tollboothlaw.AccountEven', WHERE WHAT IT READS IS OF BULK AT MOST 1048576: true; the input reads as it did. -/
def accountEvenUptoRow : OpenClaim := { program := "ytockodmbhnlheaa", sum := "b484ea495a2f216ee2561eabd47e60d2893b7819a86246f3053e8e8b4608cbc0", func := "tollbooth/tollboothlaw.AccountEven", spec := "accountEven", apart := false, narrowed := true }
def AccountEvenUptoSaid : Prop := accountEvenUptoRow.holds Try.pinned (OpenSpec.upto accountEvenSpec)

/-- 'tollboothlaw.AccountSays', WHERE WHAT IT READS IS OF BULK AT MOST 1048576: true; the input reads as it did. -/
def accountSaysUptoRow : OpenClaim := { program := "ytockodmbhnlheaa", sum := "b484ea495a2f216ee2561eabd47e60d2893b7819a86246f3053e8e8b4608cbc0", func := "tollbooth/tollboothlaw.AccountSays", spec := "accountSays", apart := false, narrowed := true }
def AccountSaysUptoSaid : Prop := accountSaysUptoRow.holds Try.pinned (OpenSpec.upto accountSaysSpec)

/-- 'tollboothlaw.FundSays', WHERE WHAT IT READS IS OF BULK AT MOST 1048576: true; the input reads as it did. -/
def fundSaysUptoRow : OpenClaim := { program := "ytockodmbhnlheaa", sum := "b484ea495a2f216ee2561eabd47e60d2893b7819a86246f3053e8e8b4608cbc0", func := "tollbooth/tollboothlaw.FundSays", spec := "fundSays", unfollowed := true, recurses := true, apart := false, narrowed := true }
def FundSaysUptoSaid : Prop := fundSaysUptoRow.holds Try.pinned (OpenSpec.upto fundSaysSpec)

/-- 'tollboothlaw.AccountFlat', WHERE WHAT IT READS IS OF BULK AT MOST 1048576: true; the input reads as it did. -/
def accountFlatUptoRow : OpenClaim := { program := "ytockodmbhnlheaa", sum := "b484ea495a2f216ee2561eabd47e60d2893b7819a86246f3053e8e8b4608cbc0", func := "tollbooth/tollboothlaw.AccountFlat", spec := "accountFlat", apart := false, narrowed := true }
def AccountFlatUptoSaid : Prop := accountFlatUptoRow.holds Try.pinned (OpenSpec.upto accountFlatSpec)

/-- 'tollboothlaw.RiskGrows', WHERE WHAT IT READS IS OF BULK AT MOST 1048576: true; the input reads as it did. -/
def riskGrowsUptoRow : OpenClaim := { program := "ytockodmbhnlheaa", sum := "b484ea495a2f216ee2561eabd47e60d2893b7819a86246f3053e8e8b4608cbc0", func := "tollbooth/tollboothlaw.RiskGrows", spec := "riskGrows", apart := false, narrowed := true }
def RiskGrowsUptoSaid : Prop := riskGrowsUptoRow.holds Try.pinned (OpenSpec.upto riskGrowsSpec)

/-- 'tollboothlaw.RiskHolds', WHERE WHAT IT READS IS OF BULK AT MOST 1048576: true; the input reads as it did. -/
def riskHoldsUptoRow : OpenClaim := { program := "ytockodmbhnlheaa", sum := "b484ea495a2f216ee2561eabd47e60d2893b7819a86246f3053e8e8b4608cbc0", func := "tollbooth/tollboothlaw.RiskHolds", spec := "riskHolds", apart := false, narrowed := true }
def RiskHoldsUptoSaid : Prop := riskHoldsUptoRow.holds Try.pinned (OpenSpec.upto riskHoldsSpec)

/-- 'tollboothlaw.BookOrder', WHERE WHAT IT READS IS OF BULK AT MOST 1048576: true; the input reads as it did. -/
def bookOrderUptoRow : OpenClaim := { program := "ytockodmbhnlheaa", sum := "b484ea495a2f216ee2561eabd47e60d2893b7819a86246f3053e8e8b4608cbc0", func := "tollbooth/tollboothlaw.BookOrder", spec := "bookOrder", inPlace := ["slices.overlaps[tollbooth/api.Order]"], unfollowed := true, recurses := true, apart := false, narrowed := true }
def BookOrderUptoSaid : Prop := bookOrderUptoRow.holds Try.pinned (OpenSpec.upto bookOrderSpec)

/-- 'tollboothlaw.BookBack', WHERE WHAT IT READS IS OF BULK AT MOST 1048576: true; the input reads as it did. -/
def bookBackUptoRow : OpenClaim := { program := "ytockodmbhnlheaa", sum := "b484ea495a2f216ee2561eabd47e60d2893b7819a86246f3053e8e8b4608cbc0", func := "tollbooth/tollboothlaw.BookBack", spec := "bookBack", inPlace := ["slices.overlaps[tollbooth/api.Order]"], unfollowed := true, recurses := true, apart := false, narrowed := true }
def BookBackUptoSaid : Prop := bookBackUptoRow.holds Try.pinned (OpenSpec.upto bookBackSpec)

/-- 'tollboothlaw.MatchParts', WHERE WHAT IT READS IS OF BULK AT MOST 1048576: true; the input reads as it did. -/
def matchPartsUptoRow : OpenClaim := { program := "ytockodmbhnlheaa", sum := "b484ea495a2f216ee2561eabd47e60d2893b7819a86246f3053e8e8b4608cbc0", func := "tollbooth/tollboothlaw.MatchParts", spec := "matchParts", inPlace := ["slices.overlaps[tollbooth/api.Order]"], unfollowed := true, recurses := true, apart := false, narrowed := true }
def MatchPartsUptoSaid : Prop := matchPartsUptoRow.holds Try.pinned (OpenSpec.upto matchPartsSpec)

/-- 'tollboothlaw.FixSays', WHERE WHAT IT READS IS OF BULK AT MOST 1048576: true; the input reads as it did. -/
def fixSaysUptoRow : OpenClaim := { program := "ytockodmbhnlheaa", sum := "b484ea495a2f216ee2561eabd47e60d2893b7819a86246f3053e8e8b4608cbc0", func := "tollbooth/tollboothlaw.FixSays", spec := "fixSays", recurses := true, apart := false, narrowed := true }
def FixSaysUptoSaid : Prop := fixSaysUptoRow.holds Try.pinned (OpenSpec.upto fixSaysSpec)

/-- 'tollboothlaw.MatchFair', WHERE WHAT IT READS IS OF BULK AT MOST 1048576: true; the input reads as it did. -/
def matchFairUptoRow : OpenClaim := { program := "ytockodmbhnlheaa", sum := "b484ea495a2f216ee2561eabd47e60d2893b7819a86246f3053e8e8b4608cbc0", func := "tollbooth/tollboothlaw.MatchFair", spec := "matchFair", inPlace := ["slices.overlaps[tollbooth/api.Order]"], unfollowed := true, recurses := true, apart := false, narrowed := true }
def MatchFairUptoSaid : Prop := matchFairUptoRow.holds Try.pinned (OpenSpec.upto matchFairSpec)

/-- 'tollboothlaw.BookSays', WHERE WHAT IT READS IS OF BULK AT MOST 1048576: true; the input reads as it did. -/
def bookSaysUptoRow : OpenClaim := { program := "ytockodmbhnlheaa", sum := "b484ea495a2f216ee2561eabd47e60d2893b7819a86246f3053e8e8b4608cbc0", func := "tollbooth/tollboothlaw.BookSays", spec := "bookSays", inPlace := ["slices.overlaps[tollbooth/api.Order]", "internal/reflectlite.ValueOf", "internal/reflectlite.Swapper", "(internal/reflectlite.Value).Len"], unfollowed := true, recurses := true, apart := false, narrowed := true }
def BookSaysUptoSaid : Prop := bookSaysUptoRow.holds Try.pinned (OpenSpec.upto bookSaysSpec)

/-- 'tollboothlaw.MatchSays', WHERE WHAT IT READS IS OF BULK AT MOST 1048576: true; the input reads as it did. -/
def matchSaysUptoRow : OpenClaim := { program := "ytockodmbhnlheaa", sum := "b484ea495a2f216ee2561eabd47e60d2893b7819a86246f3053e8e8b4608cbc0", func := "tollbooth/tollboothlaw.MatchSays", spec := "matchSays", inPlace := ["slices.overlaps[tollbooth/api.Order]", "internal/reflectlite.ValueOf", "internal/reflectlite.Swapper", "(internal/reflectlite.Value).Len"], unfollowed := true, recurses := true, apart := false, narrowed := true }
def MatchSaysUptoSaid : Prop := matchSaysUptoRow.holds Try.pinned (OpenSpec.upto matchSaysSpec)

/-- 'tollboothlaw.RiskSays', WHERE WHAT IT READS IS OF BULK AT MOST 1048576: true; the input reads as it did. -/
def riskSaysUptoRow : OpenClaim := { program := "ytockodmbhnlheaa", sum := "b484ea495a2f216ee2561eabd47e60d2893b7819a86246f3053e8e8b4608cbc0", func := "tollbooth/tollboothlaw.RiskSays", spec := "riskSays", recurses := true, apart := false, narrowed := true }
def RiskSaysUptoSaid : Prop := riskSaysUptoRow.holds Try.pinned (OpenSpec.upto riskSaysSpec)

/-- 'tollboothlaw.VenueReady', WHERE WHAT IT READS IS OF BULK AT MOST 1048576: true; the input reads as it did. -/
def venueReadyUptoRow : OpenClaim := { program := "ytockodmbhnlheaa", sum := "b484ea495a2f216ee2561eabd47e60d2893b7819a86246f3053e8e8b4608cbc0", func := "tollbooth/tollboothlaw.VenueReady", spec := "venueReady", inPlace := ["slices.overlaps[tollbooth/api.Account]", "slices.overlaps[tollbooth/api.Order]"], unfollowed := true, recurses := true, apart := false, narrowed := true }
def VenueReadyUptoSaid : Prop := venueReadyUptoRow.holds Try.pinned (OpenSpec.upto venueReadySpec)

/-- 'tollboothlaw.VenueFills', WHERE WHAT IT READS IS OF BULK AT MOST 1048576: true; the input reads as it did. -/
def venueFillsUptoRow : OpenClaim := { program := "ytockodmbhnlheaa", sum := "b484ea495a2f216ee2561eabd47e60d2893b7819a86246f3053e8e8b4608cbc0", func := "tollbooth/tollboothlaw.VenueFills", spec := "venueFills", inPlace := ["slices.overlaps[tollbooth/api.Account]", "slices.overlaps[tollbooth/api.Order]"], unfollowed := true, recurses := true, apart := false, narrowed := true }
def VenueFillsUptoSaid : Prop := venueFillsUptoRow.holds Try.pinned (OpenSpec.upto venueFillsSpec)

/-- 'tollboothlaw.VenueOthers', WHERE WHAT IT READS IS OF BULK AT MOST 1048576: true; the input reads as it did. -/
def venueOthersUptoRow : OpenClaim := { program := "ytockodmbhnlheaa", sum := "b484ea495a2f216ee2561eabd47e60d2893b7819a86246f3053e8e8b4608cbc0", func := "tollbooth/tollboothlaw.VenueOthers", spec := "venueOthers", inPlace := ["slices.overlaps[tollbooth/api.Account]", "slices.overlaps[tollbooth/api.Order]"], unfollowed := true, recurses := true, apart := false, narrowed := true }
def VenueOthersUptoSaid : Prop := venueOthersUptoRow.holds Try.pinned (OpenSpec.upto venueOthersSpec)

/-- 'tollboothlaw.VenueKeeps', WHERE WHAT IT READS IS OF BULK AT MOST 1048576: true; the input reads as it did. -/
def venueKeepsUptoRow : OpenClaim := { program := "ytockodmbhnlheaa", sum := "b484ea495a2f216ee2561eabd47e60d2893b7819a86246f3053e8e8b4608cbc0", func := "tollbooth/tollboothlaw.VenueKeeps", spec := "venueKeeps", inPlace := ["slices.overlaps[tollbooth/api.Account]", "slices.overlaps[tollbooth/api.Order]"], unfollowed := true, recurses := true, apart := false, narrowed := true }
def VenueKeepsUptoSaid : Prop := venueKeepsUptoRow.holds Try.pinned (OpenSpec.upto venueKeepsSpec)

/-- 'tollboothlaw.VenueSweeps', WHERE WHAT IT READS IS OF BULK AT MOST 1048576: true; the input reads as it did. -/
def venueSweepsUptoRow : OpenClaim := { program := "ytockodmbhnlheaa", sum := "b484ea495a2f216ee2561eabd47e60d2893b7819a86246f3053e8e8b4608cbc0", func := "tollbooth/tollboothlaw.VenueSweeps", spec := "venueSweeps", inPlace := ["slices.overlaps[tollbooth/api.Account]", "slices.overlaps[tollbooth/api.Order]"], unfollowed := true, recurses := true, apart := false, narrowed := true }
def VenueSweepsUptoSaid : Prop := venueSweepsUptoRow.holds Try.pinned (OpenSpec.upto venueSweepsSpec)

/-- 'tollboothlaw.VenueCancels', WHERE WHAT IT READS IS OF BULK AT MOST 1048576: true; the input reads as it did. -/
def venueCancelsUptoRow : OpenClaim := { program := "ytockodmbhnlheaa", sum := "b484ea495a2f216ee2561eabd47e60d2893b7819a86246f3053e8e8b4608cbc0", func := "tollbooth/tollboothlaw.VenueCancels", spec := "venueCancels", inPlace := ["slices.overlaps[tollbooth/api.Account]", "slices.overlaps[tollbooth/api.Order]"], unfollowed := true, recurses := true, apart := false, narrowed := true }
def VenueCancelsUptoSaid : Prop := venueCancelsUptoRow.holds Try.pinned (OpenSpec.upto venueCancelsSpec)

/-- 'tollboothlaw.VenueCash', WHERE WHAT IT READS IS OF BULK AT MOST 1048576: true; the input reads as it did. -/
def venueCashUptoRow : OpenClaim := { program := "ytockodmbhnlheaa", sum := "b484ea495a2f216ee2561eabd47e60d2893b7819a86246f3053e8e8b4608cbc0", func := "tollbooth/tollboothlaw.VenueCash", spec := "venueCash", inPlace := ["slices.overlaps[tollbooth/api.Account]", "slices.overlaps[tollbooth/api.Order]"], unfollowed := true, recurses := true, apart := false, narrowed := true }
def VenueCashUptoSaid : Prop := venueCashUptoRow.holds Try.pinned (OpenSpec.upto venueCashSpec)

/-- 'tollboothlaw.VenueParts', WHERE WHAT IT READS IS OF BULK AT MOST 1048576: true; the input reads as it did. -/
def venuePartsUptoRow : OpenClaim := { program := "ytockodmbhnlheaa", sum := "b484ea495a2f216ee2561eabd47e60d2893b7819a86246f3053e8e8b4608cbc0", func := "tollbooth/tollboothlaw.VenueParts", spec := "venueParts", inPlace := ["slices.overlaps[tollbooth/api.Account]", "slices.overlaps[tollbooth/api.Order]"], unfollowed := true, recurses := true, apart := false, narrowed := true }
def VenuePartsUptoSaid : Prop := venuePartsUptoRow.holds Try.pinned (OpenSpec.upto venuePartsSpec)

end Rows
end Go.Proofs.Ytockodmbhnlheaa
