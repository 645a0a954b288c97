/-
  DERIVED. GIVEN WITH THE SEED: THE CARDS: each row of YtocifmnkohgfjaaDoorRows.lean that lists a variable, with what it lists TIED to the program's text (the seventh form; the later family's looks); each row that meets fmt, with fmt's text TOLD by the authors' own Lean function (tested against real Go, not proved from fmt's source: count such statements apart). THE CARD IS WHAT COUNTS. Prove the row's statement (the work); the ties are given (YtocifmnkohgfjaaDoorTie.lean); close each card by the builder's one call (the guide's Derived/Test/ToyasCard.lean, 'card_holds'). Laid BY PROGRAM, IN A SANDBOX (cutbox-door.mjs). By AI agents, Wed Nov 11 2026. No macro, syntax, notation, axiom, sorry.
-/
import Derived.Test.YtocifmnkohgfjaaDoorRows
import GoSem.ClaimSeven
namespace Go.Proofs.YtocifmnkohgfjaaDoor
namespace Rows

/-- THE TIED CARD OF 'laws.FnExactMsgPut'. -/
def fnExactMsgPutCard : Claim7 := { stood := { row := fnExactMsgPutRow, standIns := [], harness := (true, "cab838864e7c321962d10ce433934e9a89d588bd9b01e639cb955fcf3c1ec298"), looks := false }, kinds := [], alts := [], laidByText := true, laidKinds := [.data, .data, .data, .widerDeep, .widerDeep], laidTests := true, laidLooks := .later }
def FnExactMsgPutCardSaid : Prop := Claim7.holds Tryd.pinned (.plain (OpenSpec.ofChange fnExactMsgPutSpec)) fnExactMsgPutCard

/-- THE SECOND FORM's CARD OF 'laws.FnExactMsgPut'. -/
def fnExactMsgPutUptoCard : Claim7 := { stood := { row := fnExactMsgPutUptoRow, standIns := [], harness := (true, "cab838864e7c321962d10ce433934e9a89d588bd9b01e639cb955fcf3c1ec298"), looks := false }, kinds := [], alts := [], laidByText := true, laidKinds := [.data, .data, .data, .widerDeep, .widerDeep], laidTests := true, laidLooks := .later }
def FnExactMsgPutUptoCardSaid : Prop := Claim7.holds Tryd.pinned (.plain (OpenSpec.upto fnExactMsgPutSpec)) fnExactMsgPutUptoCard
end Rows
end Go.Proofs.YtocifmnkohgfjaaDoor
