/-
  DERIVED. GIVEN WITH THE SEED: THE CARDS: each row of YtmpngkngkoigmaaGreatDoorRows.lean that lists a variable, with what it lists TIED to the program's text (the seventh form; the later family's looks); each row that meets fmt, with fmt's text TOLD by the authors' own Lean function (tested against real Go, not proved from fmt's source: count such statements apart). THE CARD IS WHAT COUNTS. Prove the row's statement (the work); the ties are given (YtmpngkngkoigmaaGreatDoorTie.lean); close each card by the builder's one call (the guide's Derived/Test/ToyasCard.lean, 'card_holds'). Laid BY PROGRAM, IN A SANDBOX (cutbox-door.mjs). By AI agents, Wed Nov 11 2026. No macro, syntax, notation, axiom, sorry.
-/
import Derived.Test.YtmpngkngkoigmaaGreatDoorRows
import GoSem.ClaimSeven
namespace Go.Proofs.YtmpngkngkoigmaaGreatDoor
namespace Rows

/-- THE TIED CARD OF 'docstorelaw15.MatchConnects'. -/
def matchConnectsCard : Claim7 := { stood := { row := matchConnectsRow, standIns := [], harness := (true, "fa26b72c75ac2a8628cf58f61129b090e830502a93132e8bf89773f63a309af4"), looks := false }, kinds := [], alts := [], laidByText := true, laidKinds := [.data, .data, .pinned], laidTests := true, laidLooks := .later }
def MatchConnectsCardSaid : Prop := Claim7.holds Tryz.pinned (.plain (OpenSpec.ofChange matchConnectsSpec)) matchConnectsCard

/-- THE TIED CARD OF 'docstorelaw15.MatchArgs'. -/
def matchArgsCard : Claim7 := { stood := { row := matchArgsRow, standIns := [], harness := (true, "fa26b72c75ac2a8628cf58f61129b090e830502a93132e8bf89773f63a309af4"), looks := false }, kinds := [], alts := [], laidByText := true, laidKinds := [.data, .data, .pinned], laidTests := true, laidLooks := .later }
def MatchArgsCardSaid : Prop := Claim7.holds Tryz.pinned (.plain (OpenSpec.ofChange matchArgsSpec)) matchArgsCard

/-- THE TIED CARD OF 'docstorelaw15.MatchOrders'. -/
def matchOrdersCard : Claim7 := { stood := { row := matchOrdersRow, standIns := [], harness := (true, "fa26b72c75ac2a8628cf58f61129b090e830502a93132e8bf89773f63a309af4"), looks := false }, kinds := [], alts := [], laidByText := true, laidKinds := [.data, .data, .pinned], laidTests := true, laidLooks := .later }
def MatchOrdersCardSaid : Prop := Claim7.holds Tryz.pinned (.plain (OpenSpec.ofChange matchOrdersSpec)) matchOrdersCard

/-- THE TIED CARD OF 'docstorelaw15.MatchLikes'. -/
def matchLikesCard : Claim7 := { stood := { row := matchLikesRow, standIns := [], harness := (true, "fa26b72c75ac2a8628cf58f61129b090e830502a93132e8bf89773f63a309af4"), looks := false }, kinds := [], alts := [], laidByText := true, laidKinds := [.data, .data, .pinned], laidTests := true, laidLooks := .later }
def MatchLikesCardSaid : Prop := Claim7.holds Tryz.pinned (.plain (OpenSpec.ofChange matchLikesSpec)) matchLikesCard

/-- THE TIED CARD OF 'docstorelaw15.MatchSingles'. -/
def matchSinglesCard : Claim7 := { stood := { row := matchSinglesRow, standIns := [], harness := (true, "fa26b72c75ac2a8628cf58f61129b090e830502a93132e8bf89773f63a309af4"), looks := false }, kinds := [], alts := [], laidByText := true, laidKinds := [.data, .data, .pinned], laidTests := true, laidLooks := .later }
def MatchSinglesCardSaid : Prop := Claim7.holds Tryz.pinned (.plain (OpenSpec.ofChange matchSinglesSpec)) matchSinglesCard

/-- THE TIED CARD OF 'docstorelaw35.LookupWhere'. -/
def lookupWhereCard : Claim7 := { stood := { row := lookupWhereRow, standIns := [], harness := (true, "fa26b72c75ac2a8628cf58f61129b090e830502a93132e8bf89773f63a309af4"), looks := false }, kinds := [], alts := [], laidByText := true, laidKinds := [.data, .data, .pinned], laidTests := true, laidLooks := .later }
def LookupWhereCardSaid : Prop := Claim7.holds Tryz.pinned (.plain (OpenSpec.ofChange lookupWhereSpec)) lookupWhereCard

/-- THE TIED CARD OF 'docstorelaw35.LookupFinds'. -/
def lookupFindsCard : Claim7 := { stood := { row := lookupFindsRow, standIns := [], harness := (true, "fa26b72c75ac2a8628cf58f61129b090e830502a93132e8bf89773f63a309af4"), looks := false }, kinds := [], alts := [], laidByText := true, laidKinds := [.data, .data, .data, .pinned], laidTests := true, laidLooks := .later }
def LookupFindsCardSaid : Prop := Claim7.holds Tryz.pinned (.plain (OpenSpec.ofChange lookupFindsSpec)) lookupFindsCard

/-- THE TIED CARD OF 'docstorelaw35.LookupAttaches'. -/
def lookupAttachesCard : Claim7 := { stood := { row := lookupAttachesRow, standIns := [], harness := (true, "fa26b72c75ac2a8628cf58f61129b090e830502a93132e8bf89773f63a309af4"), looks := false }, kinds := [], alts := [], laidByText := true, laidKinds := [.data, .data, .pinned], laidTests := true, laidLooks := .later }
def LookupAttachesCardSaid : Prop := Claim7.holds Tryz.pinned (.plain (OpenSpec.ofChange lookupAttachesSpec)) lookupAttachesCard

/-- THE TIED CARD OF 'docstorelaw35.LookupJoins'. -/
def lookupJoinsCard : Claim7 := { stood := { row := lookupJoinsRow, standIns := [], harness := (true, "fa26b72c75ac2a8628cf58f61129b090e830502a93132e8bf89773f63a309af4"), looks := false }, kinds := [], alts := [], laidByText := true, laidKinds := [.data, .data, .pinned], laidTests := true, laidLooks := .later }
def LookupJoinsCardSaid : Prop := Claim7.holds Tryz.pinned (.plain (OpenSpec.ofChange lookupJoinsSpec)) lookupJoinsCard

/-- THE TIED CARD OF 'docstorelaw35.LookupAgain'. -/
def lookupAgainCard : Claim7 := { stood := { row := lookupAgainRow, standIns := [], harness := (true, "fa26b72c75ac2a8628cf58f61129b090e830502a93132e8bf89773f63a309af4"), looks := false }, kinds := [], alts := [], laidByText := true, laidKinds := [.data, .data, .pinned], laidTests := true, laidLooks := .later }
def LookupAgainCardSaid : Prop := Claim7.holds Tryz.pinned (.plain (OpenSpec.ofChange lookupAgainSpec)) lookupAgainCard

/-- THE TIED CARD OF 'docstorelaw55.StreamEvents'. -/
def streamEventsCard : Claim7 := { stood := { row := streamEventsRow, standIns := [], harness := (true, "fa26b72c75ac2a8628cf58f61129b090e830502a93132e8bf89773f63a309af4"), looks := false }, kinds := [], alts := [], laidByText := true, laidKinds := [.data, .data, .pinned], laidTests := true, laidLooks := .later }
def StreamEventsCardSaid : Prop := Claim7.holds Tryz.pinned (.plain (OpenSpec.ofChange streamEventsSpec)) streamEventsCard

/-- THE TIED CARD OF 'docstorelaw55.StreamTokens'. -/
def streamTokensCard : Claim7 := { stood := { row := streamTokensRow, standIns := [], harness := (true, "fa26b72c75ac2a8628cf58f61129b090e830502a93132e8bf89773f63a309af4"), looks := false }, kinds := [], alts := [], laidByText := true, laidKinds := [.data, .data, .pinned], laidTests := true, laidLooks := .later }
def StreamTokensCardSaid : Prop := Claim7.holds Tryz.pinned (.plain (OpenSpec.ofChange streamTokensSpec)) streamTokensCard

/-- THE TIED CARD OF 'docstorelaw55.StreamMerges'. -/
def streamMergesCard : Claim7 := { stood := { row := streamMergesRow, standIns := [], harness := (true, "fa26b72c75ac2a8628cf58f61129b090e830502a93132e8bf89773f63a309af4"), looks := false }, kinds := [], alts := [], laidByText := true, laidKinds := [.data, .data, .pinned], laidTests := true, laidLooks := .later }
def StreamMergesCardSaid : Prop := Claim7.holds Tryz.pinned (.plain (OpenSpec.ofChange streamMergesSpec)) streamMergesCard

/-- THE TIED CARD OF 'docstorelaw55.StreamSelects'. -/
def streamSelectsCard : Claim7 := { stood := { row := streamSelectsRow, standIns := [], harness := (true, "fa26b72c75ac2a8628cf58f61129b090e830502a93132e8bf89773f63a309af4"), looks := false }, kinds := [], alts := [], laidByText := true, laidKinds := [.data, .data, .data, .pinned], laidTests := true, laidLooks := .later }
def StreamSelectsCardSaid : Prop := Claim7.holds Tryz.pinned (.plain (OpenSpec.ofChange streamSelectsSpec)) streamSelectsCard

/-- THE TIED CARD OF 'docstorelaw55.StreamReplays'. -/
def streamReplaysCard : Claim7 := { stood := { row := streamReplaysRow, standIns := [], harness := (true, "fa26b72c75ac2a8628cf58f61129b090e830502a93132e8bf89773f63a309af4"), looks := false }, kinds := [], alts := [], laidByText := true, laidKinds := [.data, .data, .pinned], laidTests := true, laidLooks := .later }
def StreamReplaysCardSaid : Prop := Claim7.holds Tryz.pinned (.plain (OpenSpec.ofChange streamReplaysSpec)) streamReplaysCard

/-- THE TIED CARD OF 'docstorelaw55.StreamResumes'. -/
def streamResumesCard : Claim7 := { stood := { row := streamResumesRow, standIns := [], harness := (true, "fa26b72c75ac2a8628cf58f61129b090e830502a93132e8bf89773f63a309af4"), looks := false }, kinds := [], alts := [], laidByText := true, laidKinds := [.data, .data, .pinned], laidTests := true, laidLooks := .later }
def StreamResumesCardSaid : Prop := Claim7.holds Tryz.pinned (.plain (OpenSpec.ofChange streamResumesSpec)) streamResumesCard

/-- THE TIED CARD OF 'docstorelaw55.StreamGrows'. -/
def streamGrowsCard : Claim7 := { stood := { row := streamGrowsRow, standIns := [], harness := (true, "fa26b72c75ac2a8628cf58f61129b090e830502a93132e8bf89773f63a309af4"), looks := false }, kinds := [], alts := [], laidByText := true, laidKinds := [.data, .data, .pinned], laidTests := true, laidLooks := .later }
def StreamGrowsCardSaid : Prop := Claim7.holds Tryz.pinned (.plain (OpenSpec.ofChange streamGrowsSpec)) streamGrowsCard

/-- THE TIED CARD OF 'docstorelaw55.StreamParts'. -/
def streamPartsCard : Claim7 := { stood := { row := streamPartsRow, standIns := [], harness := (true, "fa26b72c75ac2a8628cf58f61129b090e830502a93132e8bf89773f63a309af4"), looks := false }, kinds := [], alts := [], laidByText := true, laidKinds := [.data, .data, .pinned], laidTests := true, laidLooks := .later }
def StreamPartsCardSaid : Prop := Claim7.holds Tryz.pinned (.plain (OpenSpec.ofChange streamPartsSpec)) streamPartsCard

/-- THE SECOND FORM's CARD OF 'docstorelaw15.MatchConnects'. -/
def matchConnectsUptoCard : Claim7 := { stood := { row := matchConnectsUptoRow, standIns := [], harness := (true, "fa26b72c75ac2a8628cf58f61129b090e830502a93132e8bf89773f63a309af4"), looks := false }, kinds := [], alts := [], laidByText := true, laidKinds := [.data, .data, .pinned], laidTests := true, laidLooks := .later }
def MatchConnectsUptoCardSaid : Prop := Claim7.holds Tryz.pinned (.plain (OpenSpec.upto matchConnectsSpec)) matchConnectsUptoCard

/-- THE SECOND FORM's CARD OF 'docstorelaw15.MatchArgs'. -/
def matchArgsUptoCard : Claim7 := { stood := { row := matchArgsUptoRow, standIns := [], harness := (true, "fa26b72c75ac2a8628cf58f61129b090e830502a93132e8bf89773f63a309af4"), looks := false }, kinds := [], alts := [], laidByText := true, laidKinds := [.data, .data, .pinned], laidTests := true, laidLooks := .later }
def MatchArgsUptoCardSaid : Prop := Claim7.holds Tryz.pinned (.plain (OpenSpec.upto matchArgsSpec)) matchArgsUptoCard

/-- THE SECOND FORM's CARD OF 'docstorelaw15.MatchOrders'. -/
def matchOrdersUptoCard : Claim7 := { stood := { row := matchOrdersUptoRow, standIns := [], harness := (true, "fa26b72c75ac2a8628cf58f61129b090e830502a93132e8bf89773f63a309af4"), looks := false }, kinds := [], alts := [], laidByText := true, laidKinds := [.data, .data, .pinned], laidTests := true, laidLooks := .later }
def MatchOrdersUptoCardSaid : Prop := Claim7.holds Tryz.pinned (.plain (OpenSpec.upto matchOrdersSpec)) matchOrdersUptoCard

/-- THE SECOND FORM's CARD OF 'docstorelaw15.MatchLikes'. -/
def matchLikesUptoCard : Claim7 := { stood := { row := matchLikesUptoRow, standIns := [], harness := (true, "fa26b72c75ac2a8628cf58f61129b090e830502a93132e8bf89773f63a309af4"), looks := false }, kinds := [], alts := [], laidByText := true, laidKinds := [.data, .data, .pinned], laidTests := true, laidLooks := .later }
def MatchLikesUptoCardSaid : Prop := Claim7.holds Tryz.pinned (.plain (OpenSpec.upto matchLikesSpec)) matchLikesUptoCard

/-- THE SECOND FORM's CARD OF 'docstorelaw15.MatchSingles'. -/
def matchSinglesUptoCard : Claim7 := { stood := { row := matchSinglesUptoRow, standIns := [], harness := (true, "fa26b72c75ac2a8628cf58f61129b090e830502a93132e8bf89773f63a309af4"), looks := false }, kinds := [], alts := [], laidByText := true, laidKinds := [.data, .data, .pinned], laidTests := true, laidLooks := .later }
def MatchSinglesUptoCardSaid : Prop := Claim7.holds Tryz.pinned (.plain (OpenSpec.upto matchSinglesSpec)) matchSinglesUptoCard

/-- THE SECOND FORM's CARD OF 'docstorelaw35.LookupWhere'. -/
def lookupWhereUptoCard : Claim7 := { stood := { row := lookupWhereUptoRow, standIns := [], harness := (true, "fa26b72c75ac2a8628cf58f61129b090e830502a93132e8bf89773f63a309af4"), looks := false }, kinds := [], alts := [], laidByText := true, laidKinds := [.data, .data, .pinned], laidTests := true, laidLooks := .later }
def LookupWhereUptoCardSaid : Prop := Claim7.holds Tryz.pinned (.plain (OpenSpec.upto lookupWhereSpec)) lookupWhereUptoCard

/-- THE SECOND FORM's CARD OF 'docstorelaw35.LookupFinds'. -/
def lookupFindsUptoCard : Claim7 := { stood := { row := lookupFindsUptoRow, standIns := [], harness := (true, "fa26b72c75ac2a8628cf58f61129b090e830502a93132e8bf89773f63a309af4"), looks := false }, kinds := [], alts := [], laidByText := true, laidKinds := [.data, .data, .data, .pinned], laidTests := true, laidLooks := .later }
def LookupFindsUptoCardSaid : Prop := Claim7.holds Tryz.pinned (.plain (OpenSpec.upto lookupFindsSpec)) lookupFindsUptoCard

/-- THE SECOND FORM's CARD OF 'docstorelaw35.LookupAttaches'. -/
def lookupAttachesUptoCard : Claim7 := { stood := { row := lookupAttachesUptoRow, standIns := [], harness := (true, "fa26b72c75ac2a8628cf58f61129b090e830502a93132e8bf89773f63a309af4"), looks := false }, kinds := [], alts := [], laidByText := true, laidKinds := [.data, .data, .pinned], laidTests := true, laidLooks := .later }
def LookupAttachesUptoCardSaid : Prop := Claim7.holds Tryz.pinned (.plain (OpenSpec.upto lookupAttachesSpec)) lookupAttachesUptoCard

/-- THE SECOND FORM's CARD OF 'docstorelaw35.LookupJoins'. -/
def lookupJoinsUptoCard : Claim7 := { stood := { row := lookupJoinsUptoRow, standIns := [], harness := (true, "fa26b72c75ac2a8628cf58f61129b090e830502a93132e8bf89773f63a309af4"), looks := false }, kinds := [], alts := [], laidByText := true, laidKinds := [.data, .data, .pinned], laidTests := true, laidLooks := .later }
def LookupJoinsUptoCardSaid : Prop := Claim7.holds Tryz.pinned (.plain (OpenSpec.upto lookupJoinsSpec)) lookupJoinsUptoCard

/-- THE SECOND FORM's CARD OF 'docstorelaw35.LookupAgain'. -/
def lookupAgainUptoCard : Claim7 := { stood := { row := lookupAgainUptoRow, standIns := [], harness := (true, "fa26b72c75ac2a8628cf58f61129b090e830502a93132e8bf89773f63a309af4"), looks := false }, kinds := [], alts := [], laidByText := true, laidKinds := [.data, .data, .pinned], laidTests := true, laidLooks := .later }
def LookupAgainUptoCardSaid : Prop := Claim7.holds Tryz.pinned (.plain (OpenSpec.upto lookupAgainSpec)) lookupAgainUptoCard

/-- THE SECOND FORM's CARD OF 'docstorelaw55.StreamEvents'. -/
def streamEventsUptoCard : Claim7 := { stood := { row := streamEventsUptoRow, standIns := [], harness := (true, "fa26b72c75ac2a8628cf58f61129b090e830502a93132e8bf89773f63a309af4"), looks := false }, kinds := [], alts := [], laidByText := true, laidKinds := [.data, .data, .pinned], laidTests := true, laidLooks := .later }
def StreamEventsUptoCardSaid : Prop := Claim7.holds Tryz.pinned (.plain (OpenSpec.upto streamEventsSpec)) streamEventsUptoCard

/-- THE SECOND FORM's CARD OF 'docstorelaw55.StreamTokens'. -/
def streamTokensUptoCard : Claim7 := { stood := { row := streamTokensUptoRow, standIns := [], harness := (true, "fa26b72c75ac2a8628cf58f61129b090e830502a93132e8bf89773f63a309af4"), looks := false }, kinds := [], alts := [], laidByText := true, laidKinds := [.data, .data, .pinned], laidTests := true, laidLooks := .later }
def StreamTokensUptoCardSaid : Prop := Claim7.holds Tryz.pinned (.plain (OpenSpec.upto streamTokensSpec)) streamTokensUptoCard

/-- THE SECOND FORM's CARD OF 'docstorelaw55.StreamMerges'. -/
def streamMergesUptoCard : Claim7 := { stood := { row := streamMergesUptoRow, standIns := [], harness := (true, "fa26b72c75ac2a8628cf58f61129b090e830502a93132e8bf89773f63a309af4"), looks := false }, kinds := [], alts := [], laidByText := true, laidKinds := [.data, .data, .pinned], laidTests := true, laidLooks := .later }
def StreamMergesUptoCardSaid : Prop := Claim7.holds Tryz.pinned (.plain (OpenSpec.upto streamMergesSpec)) streamMergesUptoCard

/-- THE SECOND FORM's CARD OF 'docstorelaw55.StreamSelects'. -/
def streamSelectsUptoCard : Claim7 := { stood := { row := streamSelectsUptoRow, standIns := [], harness := (true, "fa26b72c75ac2a8628cf58f61129b090e830502a93132e8bf89773f63a309af4"), looks := false }, kinds := [], alts := [], laidByText := true, laidKinds := [.data, .data, .data, .pinned], laidTests := true, laidLooks := .later }
def StreamSelectsUptoCardSaid : Prop := Claim7.holds Tryz.pinned (.plain (OpenSpec.upto streamSelectsSpec)) streamSelectsUptoCard

/-- THE SECOND FORM's CARD OF 'docstorelaw55.StreamReplays'. -/
def streamReplaysUptoCard : Claim7 := { stood := { row := streamReplaysUptoRow, standIns := [], harness := (true, "fa26b72c75ac2a8628cf58f61129b090e830502a93132e8bf89773f63a309af4"), looks := false }, kinds := [], alts := [], laidByText := true, laidKinds := [.data, .data, .pinned], laidTests := true, laidLooks := .later }
def StreamReplaysUptoCardSaid : Prop := Claim7.holds Tryz.pinned (.plain (OpenSpec.upto streamReplaysSpec)) streamReplaysUptoCard

/-- THE SECOND FORM's CARD OF 'docstorelaw55.StreamResumes'. -/
def streamResumesUptoCard : Claim7 := { stood := { row := streamResumesUptoRow, standIns := [], harness := (true, "fa26b72c75ac2a8628cf58f61129b090e830502a93132e8bf89773f63a309af4"), looks := false }, kinds := [], alts := [], laidByText := true, laidKinds := [.data, .data, .pinned], laidTests := true, laidLooks := .later }
def StreamResumesUptoCardSaid : Prop := Claim7.holds Tryz.pinned (.plain (OpenSpec.upto streamResumesSpec)) streamResumesUptoCard

/-- THE SECOND FORM's CARD OF 'docstorelaw55.StreamGrows'. -/
def streamGrowsUptoCard : Claim7 := { stood := { row := streamGrowsUptoRow, standIns := [], harness := (true, "fa26b72c75ac2a8628cf58f61129b090e830502a93132e8bf89773f63a309af4"), looks := false }, kinds := [], alts := [], laidByText := true, laidKinds := [.data, .data, .pinned], laidTests := true, laidLooks := .later }
def StreamGrowsUptoCardSaid : Prop := Claim7.holds Tryz.pinned (.plain (OpenSpec.upto streamGrowsSpec)) streamGrowsUptoCard

/-- THE SECOND FORM's CARD OF 'docstorelaw55.StreamParts'. -/
def streamPartsUptoCard : Claim7 := { stood := { row := streamPartsUptoRow, standIns := [], harness := (true, "fa26b72c75ac2a8628cf58f61129b090e830502a93132e8bf89773f63a309af4"), looks := false }, kinds := [], alts := [], laidByText := true, laidKinds := [.data, .data, .pinned], laidTests := true, laidLooks := .later }
def StreamPartsUptoCardSaid : Prop := Claim7.holds Tryz.pinned (.plain (OpenSpec.upto streamPartsSpec)) streamPartsUptoCard
end Rows
end Go.Proofs.YtmpngkngkoigmaaGreatDoor
