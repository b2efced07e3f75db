/-
  DERIVED. GIVEN WITH THE SEED: THE CARDS: each row of YtjknnifcbcdjiaaDoorRows.lean that lists a variable, with what it lists TIED to the program's text (the seventh form; the later family's looks); each row that meets fmt, with fmt's text TOLD by the authors' own Lean function (tested against real Go, not proved from fmt's source: count such statements apart). THE CARD IS WHAT COUNTS. Prove the row's statement (the work); the ties are given (YtjknnifcbcdjiaaDoorTie.lean); close each card by the builder's one call (the guide's Derived/Test/ToyasCard.lean, 'card_holds'). Laid BY PROGRAM, IN A SANDBOX (cutbox-door.mjs). By AI agents, Wed Nov 11 2026. No macro, syntax, notation, axiom, sorry.
-/
import Derived.Test.YtjknnifcbcdjiaaDoorRows
import GoSem.ClaimSeven
namespace Go.Proofs.YtjknnifcbcdjiaaDoor
namespace Rows

/-- THE TIED CARD OF 'garderobelaw12.LibWorld'. -/
def libWorldCard : Claim7 := { stood := { row := libWorldRow, standIns := [], harness := (true, "52aa651b3d9321738022bff4165e7b0720136a2e4d1d43397c3a737bcc24b629"), looks := false }, kinds := [], alts := [], laidByText := true, laidKinds := [.listed, .data], laidTests := true, laidLooks := .later }
def LibWorldCardSaid : Prop := Claim7.holds Tryd.pinned (.plain (OpenSpec.ofChange libWorldSpec)) libWorldCard

/-- THE TIED CARD OF 'garderobelaw12.LibHolds'. -/
def libHoldsCard : Claim7 := { stood := { row := libHoldsRow, standIns := [], harness := (true, "52aa651b3d9321738022bff4165e7b0720136a2e4d1d43397c3a737bcc24b629"), looks := false }, kinds := [], alts := [], laidByText := true, laidKinds := [.listed, .data], laidTests := true, laidLooks := .later }
def LibHoldsCardSaid : Prop := Claim7.holds Tryd.pinned (.plain (OpenSpec.ofChange libHoldsSpec)) libHoldsCard

/-- THE SECOND FORM's CARD OF 'garderobelaw12.LibWorld'. -/
def libWorldUptoCard : Claim7 := { stood := { row := libWorldUptoRow, standIns := [], harness := (true, "52aa651b3d9321738022bff4165e7b0720136a2e4d1d43397c3a737bcc24b629"), looks := false }, kinds := [], alts := [], laidByText := true, laidKinds := [.listed, .data], laidTests := true, laidLooks := .later }
def LibWorldUptoCardSaid : Prop := Claim7.holds Tryd.pinned (.plain (OpenSpec.upto libWorldSpec)) libWorldUptoCard

/-- THE SECOND FORM's CARD OF 'garderobelaw12.LibHolds'. -/
def libHoldsUptoCard : Claim7 := { stood := { row := libHoldsUptoRow, standIns := [], harness := (true, "52aa651b3d9321738022bff4165e7b0720136a2e4d1d43397c3a737bcc24b629"), looks := false }, kinds := [], alts := [], laidByText := true, laidKinds := [.listed, .data], laidTests := true, laidLooks := .later }
def LibHoldsUptoCardSaid : Prop := Claim7.holds Tryd.pinned (.plain (OpenSpec.upto libHoldsSpec)) libHoldsUptoCard
end Rows
end Go.Proofs.YtjknnifcbcdjiaaDoor
