/-
  DERIVED. GIVEN WITH THE SEED: THE CARDS: each row of YtcimpmhmdnoeiaaGreatDoorRows.lean that lists a variable, with what it lists TIED to the program's text (the seventh form; the later family's looks); each row that meets fmt, with fmt's text TOLD by the authors' own Lean function (tested against real Go, not proved from fmt's source: count such statements apart). THE CARD IS WHAT COUNTS. Prove the row's statement (the work); the ties are given (YtcimpmhmdnoeiaaGreatDoorTie.lean); close each card by the builder's one call (the guide's Derived/Test/ToyasCard.lean, 'card_holds'). Laid BY PROGRAM, IN A SANDBOX (cutbox-door.mjs). By AI agents, Wed Nov 11 2026. No macro, syntax, notation, axiom, sorry.
-/
import Derived.Test.YtcimpmhmdnoeiaaGreatDoorRows
import GoSem.ClaimSeven
namespace Go.Proofs.YtcimpmhmdnoeiaaGreatDoor
namespace Rows

/-- THE TIED CARD OF 'effigylaw13.CompileTrees'. -/
def compileTreesCard : Claim7 := { stood := { row := compileTreesRow, standIns := [], harness := (true, "836a4b7c7d3583a58bd2250500180ae5cdf505b1e85b058d0683a94a06e5395e"), looks := true }, kinds := [], alts := [], laidByText := true, laidKinds := [.data, .data, .data, .data, .sentinel, .sentinel, .pinned], laidTests := true, laidLooks := .later }
def CompileTreesCardSaid : Prop := Claim7.holds Tryz.pinned (.plain (OpenSpec.ofChange compileTreesSpec)) compileTreesCard

/-- THE TIED CARD OF 'effigylaw13.CompileNames'. -/
def compileNamesCard : Claim7 := { stood := { row := compileNamesRow, standIns := [], harness := (true, "836a4b7c7d3583a58bd2250500180ae5cdf505b1e85b058d0683a94a06e5395e"), looks := true }, kinds := [], alts := [], laidByText := true, laidKinds := [.data, .data, .data, .data, .sentinel, .sentinel, .pinned], laidTests := true, laidLooks := .later }
def CompileNamesCardSaid : Prop := Claim7.holds Tryz.pinned (.plain (OpenSpec.ofChange compileNamesSpec)) compileNamesCard

/-- THE TIED CARD OF 'effigylaw13.CompileVerifies'. -/
def compileVerifiesCard : Claim7 := { stood := { row := compileVerifiesRow, standIns := [], harness := (true, "836a4b7c7d3583a58bd2250500180ae5cdf505b1e85b058d0683a94a06e5395e"), looks := true }, kinds := [], alts := [], laidByText := true, laidKinds := [.data, .data, .data, .data, .sentinel, .sentinel, .pinned], laidTests := true, laidLooks := .later }
def CompileVerifiesCardSaid : Prop := Claim7.holds Tryz.pinned (.plain (OpenSpec.ofChange compileVerifiesSpec)) compileVerifiesCard

/-- THE SECOND FORM's CARD OF 'effigylaw13.CompileTrees'. -/
def compileTreesUptoCard : Claim7 := { stood := { row := compileTreesUptoRow, standIns := [], harness := (true, "836a4b7c7d3583a58bd2250500180ae5cdf505b1e85b058d0683a94a06e5395e"), looks := true }, kinds := [], alts := [], laidByText := true, laidKinds := [.data, .data, .data, .data, .sentinel, .sentinel, .pinned], laidTests := true, laidLooks := .later }
def CompileTreesUptoCardSaid : Prop := Claim7.holds Tryz.pinned (.plain (OpenSpec.upto compileTreesSpec)) compileTreesUptoCard

/-- THE SECOND FORM's CARD OF 'effigylaw13.CompileNames'. -/
def compileNamesUptoCard : Claim7 := { stood := { row := compileNamesUptoRow, standIns := [], harness := (true, "836a4b7c7d3583a58bd2250500180ae5cdf505b1e85b058d0683a94a06e5395e"), looks := true }, kinds := [], alts := [], laidByText := true, laidKinds := [.data, .data, .data, .data, .sentinel, .sentinel, .pinned], laidTests := true, laidLooks := .later }
def CompileNamesUptoCardSaid : Prop := Claim7.holds Tryz.pinned (.plain (OpenSpec.upto compileNamesSpec)) compileNamesUptoCard

/-- THE SECOND FORM's CARD OF 'effigylaw13.CompileVerifies'. -/
def compileVerifiesUptoCard : Claim7 := { stood := { row := compileVerifiesUptoRow, standIns := [], harness := (true, "836a4b7c7d3583a58bd2250500180ae5cdf505b1e85b058d0683a94a06e5395e"), looks := true }, kinds := [], alts := [], laidByText := true, laidKinds := [.data, .data, .data, .data, .sentinel, .sentinel, .pinned], laidTests := true, laidLooks := .later }
def CompileVerifiesUptoCardSaid : Prop := Claim7.holds Tryz.pinned (.plain (OpenSpec.upto compileVerifiesSpec)) compileVerifiesUptoCard
end Rows
end Go.Proofs.YtcimpmhmdnoeiaaGreatDoor
