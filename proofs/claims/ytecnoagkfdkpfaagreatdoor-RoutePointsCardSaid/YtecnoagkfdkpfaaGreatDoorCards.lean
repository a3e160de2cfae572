/-
  DERIVED. GIVEN WITH THE SEED: THE CARDS: each row of YtecnoagkfdkpfaaGreatDoorRows.lean that lists a variable, with what it lists TIED to the program's text (the seventh form; the later family's looks); each row that meets fmt, with fmt's text TOLD by the authors' own Lean function (tested against real Go, not proved from fmt's source: count such statements apart). THE CARD IS WHAT COUNTS. Prove the row's statement (the work); the ties are given (YtecnoagkfdkpfaaGreatDoorTie.lean); close each card by the builder's one call (the guide's Derived/Test/ToyasCard.lean, 'card_holds'). Laid BY PROGRAM, IN A SANDBOX (cutbox-door.mjs). By AI agents, Wed Nov 11 2026. No macro, syntax, notation, axiom, sorry.
-/
import Derived.Test.YtecnoagkfdkpfaaGreatDoorRows
import GoSem.ClaimSeven
namespace Go.Proofs.YtecnoagkfdkpfaaGreatDoor
namespace Rows

/-- THE TIED CARD OF 'catacomblaw32.RouteNumbers'. -/
def routeNumbersCard : Claim7 := { stood := { row := routeNumbersRow, standIns := [], harness := (true, "4ed3fd62f21f29fbd757ba8b0daba9222aa123b8fd2f98d36933af08a4ffa7eb"), looks := true }, kinds := [], alts := [], laidByText := true, laidKinds := [.data, .data, .data, .data, .sentinel, .sentinel, .pinned, .pinned], laidTests := true, laidLooks := .later }
def RouteNumbersCardSaid : Prop := Claim7.holds Tryz.pinned (.plain (OpenSpec.ofChange routeNumbersSpec)) routeNumbersCard

/-- THE TIED CARD OF 'catacomblaw32.RoutePoints'. -/
def routePointsCard : Claim7 := { stood := { row := routePointsRow, standIns := [], harness := (true, "4ed3fd62f21f29fbd757ba8b0daba9222aa123b8fd2f98d36933af08a4ffa7eb"), looks := true }, kinds := [], alts := [], laidByText := true, laidKinds := [.data, .data, .data, .data, .sentinel, .sentinel, .pinned, .pinned], laidTests := true, laidLooks := .later }
def RoutePointsCardSaid : Prop := Claim7.holds Tryz.pinned (.plain (OpenSpec.ofChange routePointsSpec)) routePointsCard

/-- THE TIED CARD OF 'catacomblaw31.ReplyParses'. -/
def replyParsesCard : Claim7 := { stood := { row := replyParsesRow, standIns := [], harness := (true, "4ed3fd62f21f29fbd757ba8b0daba9222aa123b8fd2f98d36933af08a4ffa7eb"), looks := true }, kinds := [], alts := [], laidByText := true, laidKinds := [.data, .data, .data, .data, .sentinel, .sentinel, .pinned, .pinned], laidTests := true, laidLooks := .later }
def ReplyParsesCardSaid : Prop := Claim7.holds Tryz.pinned (.plain (OpenSpec.ofChange replyParsesSpec)) replyParsesCard

/-- THE TIED CARD OF 'catacomblaw31.ReplyBytes'. -/
def replyBytesCard : Claim7 := { stood := { row := replyBytesRow, standIns := [], harness := (true, "4ed3fd62f21f29fbd757ba8b0daba9222aa123b8fd2f98d36933af08a4ffa7eb"), looks := true }, kinds := [], alts := [], laidByText := true, laidKinds := [.data, .data, .data, .data, .sentinel, .sentinel, .pinned, .pinned], laidTests := true, laidLooks := .later }
def ReplyBytesCardSaid : Prop := Claim7.holds Tryz.pinned (.plain (OpenSpec.ofChange replyBytesSpec)) replyBytesCard

/-- THE TIED CARD OF 'catacomblaw34.ConnParts'. -/
def connPartsCard : Claim7 := { stood := { row := connPartsRow, standIns := [], harness := (true, "4ed3fd62f21f29fbd757ba8b0daba9222aa123b8fd2f98d36933af08a4ffa7eb"), looks := true }, kinds := [], alts := [], laidByText := true, laidKinds := [.data, .data, .data, .data, .sentinel, .sentinel, .pinned, .pinned], laidTests := true, laidLooks := .later }
def ConnPartsCardSaid : Prop := Claim7.holds Tryz.pinned (.plain (OpenSpec.ofChange connPartsSpec)) connPartsCard

/-- THE TIED CARD OF 'catacomblaw34.ConnWrites'. -/
def connWritesCard : Claim7 := { stood := { row := connWritesRow, standIns := [], harness := (true, "4ed3fd62f21f29fbd757ba8b0daba9222aa123b8fd2f98d36933af08a4ffa7eb"), looks := true }, kinds := [], alts := [], laidByText := true, laidKinds := [.data, .data, .data, .data, .sentinel, .sentinel, .pinned, .pinned], laidTests := true, laidLooks := .later }
def ConnWritesCardSaid : Prop := Claim7.holds Tryz.pinned (.plain (OpenSpec.ofChange connWritesSpec)) connWritesCard

/-- THE TIED CARD OF 'catacomblaw34.ConnPipelines'. -/
def connPipelinesCard : Claim7 := { stood := { row := connPipelinesRow, standIns := [], harness := (true, "4ed3fd62f21f29fbd757ba8b0daba9222aa123b8fd2f98d36933af08a4ffa7eb"), looks := true }, kinds := [], alts := [], laidByText := true, laidKinds := [.data, .data, .data, .data, .sentinel, .sentinel, .pinned, .pinned], laidTests := true, laidLooks := .later }
def ConnPipelinesCardSaid : Prop := Claim7.holds Tryz.pinned (.plain (OpenSpec.ofChange connPipelinesSpec)) connPipelinesCard

/-- THE SECOND FORM's CARD OF 'catacomblaw32.RouteNumbers'. -/
def routeNumbersUptoCard : Claim7 := { stood := { row := routeNumbersUptoRow, standIns := [], harness := (true, "4ed3fd62f21f29fbd757ba8b0daba9222aa123b8fd2f98d36933af08a4ffa7eb"), looks := true }, kinds := [], alts := [], laidByText := true, laidKinds := [.data, .data, .data, .data, .sentinel, .sentinel, .pinned, .pinned], laidTests := true, laidLooks := .later }
def RouteNumbersUptoCardSaid : Prop := Claim7.holds Tryz.pinned (.plain (OpenSpec.upto routeNumbersSpec)) routeNumbersUptoCard

/-- THE SECOND FORM's CARD OF 'catacomblaw32.RoutePoints'. -/
def routePointsUptoCard : Claim7 := { stood := { row := routePointsUptoRow, standIns := [], harness := (true, "4ed3fd62f21f29fbd757ba8b0daba9222aa123b8fd2f98d36933af08a4ffa7eb"), looks := true }, kinds := [], alts := [], laidByText := true, laidKinds := [.data, .data, .data, .data, .sentinel, .sentinel, .pinned, .pinned], laidTests := true, laidLooks := .later }
def RoutePointsUptoCardSaid : Prop := Claim7.holds Tryz.pinned (.plain (OpenSpec.upto routePointsSpec)) routePointsUptoCard

/-- THE SECOND FORM's CARD OF 'catacomblaw31.ReplyParses'. -/
def replyParsesUptoCard : Claim7 := { stood := { row := replyParsesUptoRow, standIns := [], harness := (true, "4ed3fd62f21f29fbd757ba8b0daba9222aa123b8fd2f98d36933af08a4ffa7eb"), looks := true }, kinds := [], alts := [], laidByText := true, laidKinds := [.data, .data, .data, .data, .sentinel, .sentinel, .pinned, .pinned], laidTests := true, laidLooks := .later }
def ReplyParsesUptoCardSaid : Prop := Claim7.holds Tryz.pinned (.plain (OpenSpec.upto replyParsesSpec)) replyParsesUptoCard

/-- THE SECOND FORM's CARD OF 'catacomblaw31.ReplyBytes'. -/
def replyBytesUptoCard : Claim7 := { stood := { row := replyBytesUptoRow, standIns := [], harness := (true, "4ed3fd62f21f29fbd757ba8b0daba9222aa123b8fd2f98d36933af08a4ffa7eb"), looks := true }, kinds := [], alts := [], laidByText := true, laidKinds := [.data, .data, .data, .data, .sentinel, .sentinel, .pinned, .pinned], laidTests := true, laidLooks := .later }
def ReplyBytesUptoCardSaid : Prop := Claim7.holds Tryz.pinned (.plain (OpenSpec.upto replyBytesSpec)) replyBytesUptoCard

/-- THE SECOND FORM's CARD OF 'catacomblaw34.ConnParts'. -/
def connPartsUptoCard : Claim7 := { stood := { row := connPartsUptoRow, standIns := [], harness := (true, "4ed3fd62f21f29fbd757ba8b0daba9222aa123b8fd2f98d36933af08a4ffa7eb"), looks := true }, kinds := [], alts := [], laidByText := true, laidKinds := [.data, .data, .data, .data, .sentinel, .sentinel, .pinned, .pinned], laidTests := true, laidLooks := .later }
def ConnPartsUptoCardSaid : Prop := Claim7.holds Tryz.pinned (.plain (OpenSpec.upto connPartsSpec)) connPartsUptoCard

/-- THE SECOND FORM's CARD OF 'catacomblaw34.ConnWrites'. -/
def connWritesUptoCard : Claim7 := { stood := { row := connWritesUptoRow, standIns := [], harness := (true, "4ed3fd62f21f29fbd757ba8b0daba9222aa123b8fd2f98d36933af08a4ffa7eb"), looks := true }, kinds := [], alts := [], laidByText := true, laidKinds := [.data, .data, .data, .data, .sentinel, .sentinel, .pinned, .pinned], laidTests := true, laidLooks := .later }
def ConnWritesUptoCardSaid : Prop := Claim7.holds Tryz.pinned (.plain (OpenSpec.upto connWritesSpec)) connWritesUptoCard

/-- THE SECOND FORM's CARD OF 'catacomblaw34.ConnPipelines'. -/
def connPipelinesUptoCard : Claim7 := { stood := { row := connPipelinesUptoRow, standIns := [], harness := (true, "4ed3fd62f21f29fbd757ba8b0daba9222aa123b8fd2f98d36933af08a4ffa7eb"), looks := true }, kinds := [], alts := [], laidByText := true, laidKinds := [.data, .data, .data, .data, .sentinel, .sentinel, .pinned, .pinned], laidTests := true, laidLooks := .later }
def ConnPipelinesUptoCardSaid : Prop := Claim7.holds Tryz.pinned (.plain (OpenSpec.upto connPipelinesSpec)) connPipelinesUptoCard
end Rows
end Go.Proofs.YtecnoagkfdkpfaaGreatDoor
