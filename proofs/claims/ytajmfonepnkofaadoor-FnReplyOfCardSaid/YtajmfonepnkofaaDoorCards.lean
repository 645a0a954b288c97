/-
  DERIVED. GIVEN WITH THE SEED: THE CARDS: each row of YtajmfonepnkofaaDoorRows.lean that lists a variable, with what it lists TIED to the program's text (the seventh form; the later family's looks); each row that meets fmt, with fmt's text TOLD by the authors' own Lean function (tested against real Go, not proved from fmt's source: count such statements apart). THE CARD IS WHAT COUNTS. Prove the row's statement (the work); the ties are given (YtajmfonepnkofaaDoorTie.lean); close each card by the builder's one call (the guide's Derived/Test/ToyasCard.lean, 'card_holds'). Laid BY PROGRAM, IN A SANDBOX (cutbox-door.mjs). By AI agents, Wed Nov 11 2026. No macro, syntax, notation, axiom, sorry.
-/
import Derived.Test.YtajmfonepnkofaaDoorRows
import GoSem.ClaimSeven
namespace Go.Proofs.YtajmfonepnkofaaDoor
namespace Rows

/-- THE TIED CARD OF 'laws.FnExactReplyOf'. -/
def fnExactReplyOfCard : Claim7 := { stood := { row := fnExactReplyOfRow, standIns := [], harness := (true, "c37f6de92cc2b832fd2fdbd6888db135bf5cb128044d97dab06dee5a46785510"), looks := false }, kinds := [], alts := [], laidByText := true, laidKinds := [.data, .data, .data], laidTests := true, laidLooks := .later }
def FnExactReplyOfCardSaid : Prop := Claim7.holds Tryd.pinned (.plain (OpenSpec.ofChange fnExactReplyOfSpec)) fnExactReplyOfCard

/-- THE TIED CARD OF 'laws.FnReplyOf'. -/
def fnReplyOfCard : Claim7 := { stood := { row := fnReplyOfRow, standIns := [], harness := (true, "c37f6de92cc2b832fd2fdbd6888db135bf5cb128044d97dab06dee5a46785510"), looks := false }, kinds := [], alts := [], laidByText := true, laidKinds := [.data, .data, .data], laidTests := true, laidLooks := .later }
def FnReplyOfCardSaid : Prop := Claim7.holds Tryd.pinned (.plain (OpenSpec.ofChange fnReplyOfSpec)) fnReplyOfCard

/-- THE SECOND FORM's CARD OF 'laws.FnExactReplyOf'. -/
def fnExactReplyOfUptoCard : Claim7 := { stood := { row := fnExactReplyOfUptoRow, standIns := [], harness := (true, "c37f6de92cc2b832fd2fdbd6888db135bf5cb128044d97dab06dee5a46785510"), looks := false }, kinds := [], alts := [], laidByText := true, laidKinds := [.data, .data, .data], laidTests := true, laidLooks := .later }
def FnExactReplyOfUptoCardSaid : Prop := Claim7.holds Tryd.pinned (.plain (OpenSpec.upto fnExactReplyOfSpec)) fnExactReplyOfUptoCard

/-- THE SECOND FORM's CARD OF 'laws.FnReplyOf'. -/
def fnReplyOfUptoCard : Claim7 := { stood := { row := fnReplyOfUptoRow, standIns := [], harness := (true, "c37f6de92cc2b832fd2fdbd6888db135bf5cb128044d97dab06dee5a46785510"), looks := false }, kinds := [], alts := [], laidByText := true, laidKinds := [.data, .data, .data], laidTests := true, laidLooks := .later }
def FnReplyOfUptoCardSaid : Prop := Claim7.holds Tryd.pinned (.plain (OpenSpec.upto fnReplyOfSpec)) fnReplyOfUptoCard
end Rows
end Go.Proofs.YtajmfonepnkofaaDoor
