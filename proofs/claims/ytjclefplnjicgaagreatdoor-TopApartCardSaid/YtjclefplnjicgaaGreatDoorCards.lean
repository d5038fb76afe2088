/-
  DERIVED. GIVEN WITH THE SEED: THE CARDS: each row of YtjclefplnjicgaaGreatDoorRows.lean that lists a variable, with what it lists TIED to the program's text (the seventh form; the later family's looks); each row that meets fmt, with fmt's text TOLD by the authors' own Lean function (tested against real Go, not proved from fmt's source: count such statements apart). THE CARD IS WHAT COUNTS. Prove the row's statement (the work); the ties are given (YtjclefplnjicgaaGreatDoorTie.lean); close each card by the builder's one call (the guide's Derived/Test/ToyasCard.lean, 'card_holds'). Laid BY PROGRAM, IN A SANDBOX (cutbox-door.mjs). By AI agents, Wed Nov 11 2026. No macro, syntax, notation, axiom, sorry.
-/
import Derived.Test.YtjclefplnjicgaaGreatDoorRows
import GoSem.ClaimSeven
namespace Go.Proofs.YtjclefplnjicgaaGreatDoor
namespace Rows

/-- THE TIED CARD OF 'mktop.TopCount'. -/
def topCountCard : Claim7 := { stood := { row := topCountRow, standIns := [], harness := (true, "9f9e46e130923191aec6c298d29a2d1abbf71e037f3bcb28fe3d9daae2364d7d"), looks := true }, kinds := [], alts := [], laidByText := true, laidKinds := [.data, .data, .data, .data, .sentinel, .sentinel, .pinned], laidTests := true, laidLooks := .later }
def TopCountCardSaid : Prop := Claim7.holds Tryz.pinned (.plain (OpenSpec.ofChange topCountSpec)) topCountCard

/-- THE TIED CARD OF 'mktop.TopApart'. -/
def topApartCard : Claim7 := { stood := { row := topApartRow, standIns := [], harness := (true, "9f9e46e130923191aec6c298d29a2d1abbf71e037f3bcb28fe3d9daae2364d7d"), looks := true }, kinds := [], alts := [], laidByText := true, laidKinds := [.data, .data, .data, .data, .sentinel, .sentinel, .pinned], laidTests := true, laidLooks := .later }
def TopApartCardSaid : Prop := Claim7.holds Tryz.pinned (.plain (OpenSpec.ofChange topApartSpec)) topApartCard

/-- THE TIED CARD OF 'mktop.TopSwap'. -/
def topSwapCard : Claim7 := { stood := { row := topSwapRow, standIns := [], harness := (true, "9f9e46e130923191aec6c298d29a2d1abbf71e037f3bcb28fe3d9daae2364d7d"), looks := true }, kinds := [], alts := [], laidByText := true, laidKinds := [.data, .data, .data, .data, .sentinel, .sentinel, .pinned], laidTests := true, laidLooks := .later }
def TopSwapCardSaid : Prop := Claim7.holds Tryz.pinned (.plain (OpenSpec.ofChange topSwapSpec)) topSwapCard

/-- THE TIED CARD OF 'mktop.TopRoom'. -/
def topRoomCard : Claim7 := { stood := { row := topRoomRow, standIns := [], harness := (true, "9f9e46e130923191aec6c298d29a2d1abbf71e037f3bcb28fe3d9daae2364d7d"), looks := true }, kinds := [], alts := [], laidByText := true, laidKinds := [.data, .data, .data, .data, .sentinel, .sentinel, .pinned], laidTests := true, laidLooks := .later }
def TopRoomCardSaid : Prop := Claim7.holds Tryz.pinned (.plain (OpenSpec.ofChange topRoomSpec)) topRoomCard

/-- THE SECOND FORM's CARD OF 'mktop.TopCount'. -/
def topCountUptoCard : Claim7 := { stood := { row := topCountUptoRow, standIns := [], harness := (true, "9f9e46e130923191aec6c298d29a2d1abbf71e037f3bcb28fe3d9daae2364d7d"), looks := true }, kinds := [], alts := [], laidByText := true, laidKinds := [.data, .data, .data, .data, .sentinel, .sentinel, .pinned], laidTests := true, laidLooks := .later }
def TopCountUptoCardSaid : Prop := Claim7.holds Tryz.pinned (.plain (OpenSpec.upto topCountSpec)) topCountUptoCard

/-- THE SECOND FORM's CARD OF 'mktop.TopApart'. -/
def topApartUptoCard : Claim7 := { stood := { row := topApartUptoRow, standIns := [], harness := (true, "9f9e46e130923191aec6c298d29a2d1abbf71e037f3bcb28fe3d9daae2364d7d"), looks := true }, kinds := [], alts := [], laidByText := true, laidKinds := [.data, .data, .data, .data, .sentinel, .sentinel, .pinned], laidTests := true, laidLooks := .later }
def TopApartUptoCardSaid : Prop := Claim7.holds Tryz.pinned (.plain (OpenSpec.upto topApartSpec)) topApartUptoCard

/-- THE SECOND FORM's CARD OF 'mktop.TopSwap'. -/
def topSwapUptoCard : Claim7 := { stood := { row := topSwapUptoRow, standIns := [], harness := (true, "9f9e46e130923191aec6c298d29a2d1abbf71e037f3bcb28fe3d9daae2364d7d"), looks := true }, kinds := [], alts := [], laidByText := true, laidKinds := [.data, .data, .data, .data, .sentinel, .sentinel, .pinned], laidTests := true, laidLooks := .later }
def TopSwapUptoCardSaid : Prop := Claim7.holds Tryz.pinned (.plain (OpenSpec.upto topSwapSpec)) topSwapUptoCard

/-- THE SECOND FORM's CARD OF 'mktop.TopRoom'. -/
def topRoomUptoCard : Claim7 := { stood := { row := topRoomUptoRow, standIns := [], harness := (true, "9f9e46e130923191aec6c298d29a2d1abbf71e037f3bcb28fe3d9daae2364d7d"), looks := true }, kinds := [], alts := [], laidByText := true, laidKinds := [.data, .data, .data, .data, .sentinel, .sentinel, .pinned], laidTests := true, laidLooks := .later }
def TopRoomUptoCardSaid : Prop := Claim7.holds Tryz.pinned (.plain (OpenSpec.upto topRoomSpec)) topRoomUptoCard
end Rows
end Go.Proofs.YtjclefplnjicgaaGreatDoor
