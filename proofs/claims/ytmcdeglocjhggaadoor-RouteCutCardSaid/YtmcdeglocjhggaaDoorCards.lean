/-
  DERIVED. GIVEN WITH THE SEED: THE CARDS: each row of YtmcdeglocjhggaaDoorRows.lean that lists a variable, with what it lists TIED to the program's text (the seventh form; the later family's looks); each row that meets fmt, with fmt's text TOLD by the authors' own Lean function (tested against real Go, not proved from fmt's source: count such statements apart). THE CARD IS WHAT COUNTS. Prove the row's statement (the work); the ties are given (YtmcdeglocjhggaaDoorTie.lean); close each card by the builder's one call (the guide's Derived/Test/ToyasCard.lean, 'card_holds'). Laid BY PROGRAM, IN A SANDBOX (cutbox-door.mjs). By AI agents, Wed Nov 11 2026. No macro, syntax, notation, axiom, sorry.
-/
import Derived.Test.YtmcdeglocjhggaaDoorRows
import GoSem.ClaimSeven
namespace Go.Proofs.YtmcdeglocjhggaaDoor
namespace Rows

/-- THE TIED CARD OF 'tidemarklaw12.RouteCut'. -/
def routeCutCard : Claim7 := { stood := { row := routeCutRow, standIns := [], harness := (true, "4da481ee359cd62662815e5b714ffbd0adecdf3831db70341f112158a7370977"), looks := false }, kinds := [], alts := [], laidByText := true, laidKinds := [.data, .data, .data], laidTests := true, laidLooks := .later }
def RouteCutCardSaid : Prop := Claim7.holds Tryd.pinned (.plain (OpenSpec.ofChange routeCutSpec)) routeCutCard

/-- THE TIED CARD OF 'tidemarklaw12.RouteShares'. -/
def routeSharesCard : Claim7 := { stood := { row := routeSharesRow, standIns := [], harness := (true, "4da481ee359cd62662815e5b714ffbd0adecdf3831db70341f112158a7370977"), looks := false }, kinds := [], alts := [], laidByText := true, laidKinds := [.data, .data, .data], laidTests := true, laidLooks := .later }
def RouteSharesCardSaid : Prop := Claim7.holds Tryd.pinned (.plain (OpenSpec.ofChange routeSharesSpec)) routeSharesCard

/-- THE SECOND FORM's CARD OF 'tidemarklaw12.RouteCut'. -/
def routeCutUptoCard : Claim7 := { stood := { row := routeCutUptoRow, standIns := [], harness := (true, "4da481ee359cd62662815e5b714ffbd0adecdf3831db70341f112158a7370977"), looks := false }, kinds := [], alts := [], laidByText := true, laidKinds := [.data, .data, .data], laidTests := true, laidLooks := .later }
def RouteCutUptoCardSaid : Prop := Claim7.holds Tryd.pinned (.plain (OpenSpec.upto routeCutSpec)) routeCutUptoCard

/-- THE SECOND FORM's CARD OF 'tidemarklaw12.RouteShares'. -/
def routeSharesUptoCard : Claim7 := { stood := { row := routeSharesUptoRow, standIns := [], harness := (true, "4da481ee359cd62662815e5b714ffbd0adecdf3831db70341f112158a7370977"), looks := false }, kinds := [], alts := [], laidByText := true, laidKinds := [.data, .data, .data], laidTests := true, laidLooks := .later }
def RouteSharesUptoCardSaid : Prop := Claim7.holds Tryd.pinned (.plain (OpenSpec.upto routeSharesSpec)) routeSharesUptoCard
end Rows
end Go.Proofs.YtmcdeglocjhggaaDoor
