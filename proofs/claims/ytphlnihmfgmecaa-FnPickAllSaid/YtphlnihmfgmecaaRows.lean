/-
  No cell of these rows narrows 'for every input' (looked for: loops, veiled, ifaces, maps, wideKeys, modest, calm, conditions, laid).
  DERIVED. THE GIVEN ROWS OF THIS SEAT. 14 by the template 'for every input the law returns true; each argument reads behind the call as it read before'; 0 by the template 'total and deterministic' (their statements: YtphlnihmfgmecaaTotals.lean).
  GIVEN WITH THE SEED: the statements are not yours to turn. If you find one false, say at which input.
  Laid BY PROGRAM, IN A SANDBOX (cutbox-rows.mjs): the forced cells as the released guide's own fill.sh prints them over the translation acb8382e6abcd9d0… (all of the seat's roots in one cut). By AI agents, Wed Nov 11 2026. No macro, syntax, notation, axiom, sorry.
-/
import Derived.Test.YtphlnihmfgmecaaChecked
import GoSem.Claim
import GoSem.ClaimJoined
import GoSem.ClaimMapViews
import Derived.JoinedTies
import Derived.KernelRfl
namespace Go.Proofs.Ytphlnihmfgmecaa
/- THE CELL 'sum', in the pinned program and in every row, IS THE sha256 OF THE DUMP (.gsa) THAT YtphlnihmfgmecaaProg.lean LOADS. Nothing in Lean hashes anything: it is a label: what it is worth is what the hold of that sum in a sandbox is worth. -/
noncomputable def Try.pinned : Pinned := { name := "ytphlnihmfgmecaa", sum := "acb8382e6abcd9d0ae8b5436ed167df14eb3787ff49ab084f86942d49b24126c", checked := Try.checked }
namespace Rows
def none {H : Type} : Left H := { results := [], args := [] }

/-- 'laws.FnPickAll': WHATEVER THE INPUT: true; the input reads as it did. -/
def fnPickAllSpec : ChangeSpec := { name := "fnPickAll", fn := fun _ => fun
  | [d] => { results := [.lit (.bool true)], args := [d] }
  | _ => none }
def fnPickAllRow : OpenClaim := { program := "ytphlnihmfgmecaa", sum := "acb8382e6abcd9d0ae8b5436ed167df14eb3787ff49ab084f86942d49b24126c", func := "loop.example/wapentake/laws.FnPickAll", spec := "fnPickAll", apart := false }
def FnPickAllSaid : Prop := fnPickAllRow.holds Try.pinned (OpenSpec.ofChange fnPickAllSpec)

/-- ITS FALSE NEIGHBOUR: 'it returns false'. Refute it at one input. -/
def fnPickAllWrong : ChangeSpec := { name := "fnPickAll", fn := fun _ => fun
  | [d] => { results := [.lit (.bool false)], args := [d] }
  | _ => none }
def FnPickAllWrongFalsely : Prop := fnPickAllRow.holds Try.pinned (OpenSpec.ofChange fnPickAllWrong)

/-- 'laws.FnRepNew': WHATEVER THE INPUT: true; the input reads as it did. -/
def fnRepNewSpec : ChangeSpec := { name := "fnRepNew", fn := fun _ => fun
  | [d] => { results := [.lit (.bool true)], args := [d] }
  | _ => none }
def fnRepNewRow : OpenClaim := { program := "ytphlnihmfgmecaa", sum := "acb8382e6abcd9d0ae8b5436ed167df14eb3787ff49ab084f86942d49b24126c", func := "loop.example/wapentake/laws.FnRepNew", spec := "fnRepNew", unfollowed := true, recurses := true, apart := false }
def FnRepNewSaid : Prop := fnRepNewRow.holds Try.pinned (OpenSpec.ofChange fnRepNewSpec)

/-- ITS FALSE NEIGHBOUR: 'it returns false'. Refute it at one input. -/
def fnRepNewWrong : ChangeSpec := { name := "fnRepNew", fn := fun _ => fun
  | [d] => { results := [.lit (.bool false)], args := [d] }
  | _ => none }
def FnRepNewWrongFalsely : Prop := fnRepNewRow.holds Try.pinned (OpenSpec.ofChange fnRepNewWrong)

/-- 'laws.FnWorldNew': WHATEVER THE INPUT: true; the input reads as it did. -/
def fnWorldNewSpec : ChangeSpec := { name := "fnWorldNew", fn := fun _ => fun
  | [d] => { results := [.lit (.bool true)], args := [d] }
  | _ => none }
def fnWorldNewRow : OpenClaim := { program := "ytphlnihmfgmecaa", sum := "acb8382e6abcd9d0ae8b5436ed167df14eb3787ff49ab084f86942d49b24126c", func := "loop.example/wapentake/laws.FnWorldNew", spec := "fnWorldNew", unfollowed := true, recurses := true, apart := false }
def FnWorldNewSaid : Prop := fnWorldNewRow.holds Try.pinned (OpenSpec.ofChange fnWorldNewSpec)

/-- ITS FALSE NEIGHBOUR: 'it returns false'. Refute it at one input. -/
def fnWorldNewWrong : ChangeSpec := { name := "fnWorldNew", fn := fun _ => fun
  | [d] => { results := [.lit (.bool false)], args := [d] }
  | _ => none }
def FnWorldNewWrongFalsely : Prop := fnWorldNewRow.holds Try.pinned (OpenSpec.ofChange fnWorldNewWrong)

/-- 'laws.FnMsgSame': WHATEVER THE INPUT: true; the input reads as it did. -/
def fnMsgSameSpec : ChangeSpec := { name := "fnMsgSame", fn := fun _ => fun
  | [d] => { results := [.lit (.bool true)], args := [d] }
  | _ => none }
def fnMsgSameRow : OpenClaim := { program := "ytphlnihmfgmecaa", sum := "acb8382e6abcd9d0ae8b5436ed167df14eb3787ff49ab084f86942d49b24126c", func := "loop.example/wapentake/laws.FnMsgSame", spec := "fnMsgSame", unfollowed := true, recurses := true, apart := false }
def FnMsgSameSaid : Prop := fnMsgSameRow.holds Try.pinned (OpenSpec.ofChange fnMsgSameSpec)

/-- ITS FALSE NEIGHBOUR: 'it returns false'. Refute it at one input. -/
def fnMsgSameWrong : ChangeSpec := { name := "fnMsgSame", fn := fun _ => fun
  | [d] => { results := [.lit (.bool false)], args := [d] }
  | _ => none }
def FnMsgSameWrongFalsely : Prop := fnMsgSameRow.holds Try.pinned (OpenSpec.ofChange fnMsgSameWrong)

/-- 'laws.FnExactMsgOk': WHATEVER THE INPUT: true; the input reads as it did. -/
def fnExactMsgOkSpec : ChangeSpec := { name := "fnExactMsgOk", fn := fun _ => fun
  | [d] => { results := [.lit (.bool true)], args := [d] }
  | _ => none }
def fnExactMsgOkRow : OpenClaim := { program := "ytphlnihmfgmecaa", sum := "acb8382e6abcd9d0ae8b5436ed167df14eb3787ff49ab084f86942d49b24126c", func := "loop.example/wapentake/laws.FnExactMsgOk", spec := "fnExactMsgOk", unfollowed := true, recurses := true, apart := false }
def FnExactMsgOkSaid : Prop := fnExactMsgOkRow.holds Try.pinned (OpenSpec.ofChange fnExactMsgOkSpec)

/-- ITS FALSE NEIGHBOUR: 'it returns false'. Refute it at one input. -/
def fnExactMsgOkWrong : ChangeSpec := { name := "fnExactMsgOk", fn := fun _ => fun
  | [d] => { results := [.lit (.bool false)], args := [d] }
  | _ => none }
def FnExactMsgOkWrongFalsely : Prop := fnExactMsgOkRow.holds Try.pinned (OpenSpec.ofChange fnExactMsgOkWrong)

/-- 'laws.FnExactPickAll': WHATEVER THE INPUT: true; the input reads as it did. -/
def fnExactPickAllSpec : ChangeSpec := { name := "fnExactPickAll", fn := fun _ => fun
  | [d] => { results := [.lit (.bool true)], args := [d] }
  | _ => none }
def fnExactPickAllRow : OpenClaim := { program := "ytphlnihmfgmecaa", sum := "acb8382e6abcd9d0ae8b5436ed167df14eb3787ff49ab084f86942d49b24126c", func := "loop.example/wapentake/laws.FnExactPickAll", spec := "fnExactPickAll", apart := false }
def FnExactPickAllSaid : Prop := fnExactPickAllRow.holds Try.pinned (OpenSpec.ofChange fnExactPickAllSpec)

/-- ITS FALSE NEIGHBOUR: 'it returns false'. Refute it at one input. -/
def fnExactPickAllWrong : ChangeSpec := { name := "fnExactPickAll", fn := fun _ => fun
  | [d] => { results := [.lit (.bool false)], args := [d] }
  | _ => none }
def FnExactPickAllWrongFalsely : Prop := fnExactPickAllRow.holds Try.pinned (OpenSpec.ofChange fnExactPickAllWrong)

/-- 'laws.FnExactClaimReady': WHATEVER THE INPUT: true; the input reads as it did. -/
def fnExactClaimReadySpec : ChangeSpec := { name := "fnExactClaimReady", fn := fun _ => fun
  | [d1, d2] => { results := [.lit (.bool true)], args := [d1, d2] }
  | _ => none }
def fnExactClaimReadyRow : OpenClaim := { program := "ytphlnihmfgmecaa", sum := "acb8382e6abcd9d0ae8b5436ed167df14eb3787ff49ab084f86942d49b24126c", func := "loop.example/wapentake/laws.FnExactClaimReady", spec := "fnExactClaimReady", unfollowed := true, recurses := true, apart := false }
def FnExactClaimReadySaid : Prop := fnExactClaimReadyRow.holds Try.pinned (OpenSpec.ofChange fnExactClaimReadySpec)

/-- ITS FALSE NEIGHBOUR: 'it returns false'. Refute it at one input. -/
def fnExactClaimReadyWrong : ChangeSpec := { name := "fnExactClaimReady", fn := fun _ => fun
  | [d1, d2] => { results := [.lit (.bool false)], args := [d1, d2] }
  | _ => none }
def FnExactClaimReadyWrongFalsely : Prop := fnExactClaimReadyRow.holds Try.pinned (OpenSpec.ofChange fnExactClaimReadyWrong)

/-- 'laws.FnExactRepOk': WHATEVER THE INPUT: true; the input reads as it did. -/
def fnExactRepOkSpec : ChangeSpec := { name := "fnExactRepOk", fn := fun _ => fun
  | [d] => { results := [.lit (.bool true)], args := [d] }
  | _ => none }
def fnExactRepOkRow : OpenClaim := { program := "ytphlnihmfgmecaa", sum := "acb8382e6abcd9d0ae8b5436ed167df14eb3787ff49ab084f86942d49b24126c", func := "loop.example/wapentake/laws.FnExactRepOk", spec := "fnExactRepOk", unfollowed := true, recurses := true, apart := false }
def FnExactRepOkSaid : Prop := fnExactRepOkRow.holds Try.pinned (OpenSpec.ofChange fnExactRepOkSpec)

/-- ITS FALSE NEIGHBOUR: 'it returns false'. Refute it at one input. -/
def fnExactRepOkWrong : ChangeSpec := { name := "fnExactRepOk", fn := fun _ => fun
  | [d] => { results := [.lit (.bool false)], args := [d] }
  | _ => none }
def FnExactRepOkWrongFalsely : Prop := fnExactRepOkRow.holds Try.pinned (OpenSpec.ofChange fnExactRepOkWrong)

/-- 'laws.FnExactVotesOk': WHATEVER THE INPUT: true; the input reads as it did. -/
def fnExactVotesOkSpec : ChangeSpec := { name := "fnExactVotesOk", fn := fun _ => fun
  | [d1, d2, d3] => { results := [.lit (.bool true)], args := [d1, d2, d3] }
  | _ => none }
def fnExactVotesOkRow : OpenClaim := { program := "ytphlnihmfgmecaa", sum := "acb8382e6abcd9d0ae8b5436ed167df14eb3787ff49ab084f86942d49b24126c", func := "loop.example/wapentake/laws.FnExactVotesOk", spec := "fnExactVotesOk", unfollowed := true, recurses := true, apart := false }
def FnExactVotesOkSaid : Prop := fnExactVotesOkRow.holds Try.pinned (OpenSpec.ofChange fnExactVotesOkSpec)

/-- ITS FALSE NEIGHBOUR: 'it returns false'. Refute it at one input. -/
def fnExactVotesOkWrong : ChangeSpec := { name := "fnExactVotesOk", fn := fun _ => fun
  | [d1, d2, d3] => { results := [.lit (.bool false)], args := [d1, d2, d3] }
  | _ => none }
def FnExactVotesOkWrongFalsely : Prop := fnExactVotesOkRow.holds Try.pinned (OpenSpec.ofChange fnExactVotesOkWrong)

/-- 'laws.FnExactWorldOk': WHATEVER THE INPUT: true; the input reads as it did. -/
def fnExactWorldOkSpec : ChangeSpec := { name := "fnExactWorldOk", fn := fun _ => fun
  | [d] => { results := [.lit (.bool true)], args := [d] }
  | _ => none }
def fnExactWorldOkRow : OpenClaim := { program := "ytphlnihmfgmecaa", sum := "acb8382e6abcd9d0ae8b5436ed167df14eb3787ff49ab084f86942d49b24126c", func := "loop.example/wapentake/laws.FnExactWorldOk", spec := "fnExactWorldOk", unfollowed := true, recurses := true, apart := false }
def FnExactWorldOkSaid : Prop := fnExactWorldOkRow.holds Try.pinned (OpenSpec.ofChange fnExactWorldOkSpec)

/-- ITS FALSE NEIGHBOUR: 'it returns false'. Refute it at one input. -/
def fnExactWorldOkWrong : ChangeSpec := { name := "fnExactWorldOk", fn := fun _ => fun
  | [d] => { results := [.lit (.bool false)], args := [d] }
  | _ => none }
def FnExactWorldOkWrongFalsely : Prop := fnExactWorldOkRow.holds Try.pinned (OpenSpec.ofChange fnExactWorldOkWrong)

/-- 'laws.FnExactRepList': WHATEVER THE INPUT: true; the input reads as it did. -/
def fnExactRepListSpec : ChangeSpec := { name := "fnExactRepList", fn := fun _ => fun
  | [d] => { results := [.lit (.bool true)], args := [d] }
  | _ => none }
def fnExactRepListRow : OpenClaim := { program := "ytphlnihmfgmecaa", sum := "acb8382e6abcd9d0ae8b5436ed167df14eb3787ff49ab084f86942d49b24126c", func := "loop.example/wapentake/laws.FnExactRepList", spec := "fnExactRepList", unfollowed := true, recurses := true, apart := false }
def FnExactRepListSaid : Prop := fnExactRepListRow.holds Try.pinned (OpenSpec.ofChange fnExactRepListSpec)

/-- ITS FALSE NEIGHBOUR: 'it returns false'. Refute it at one input. -/
def fnExactRepListWrong : ChangeSpec := { name := "fnExactRepList", fn := fun _ => fun
  | [d] => { results := [.lit (.bool false)], args := [d] }
  | _ => none }
def FnExactRepListWrongFalsely : Prop := fnExactRepListRow.holds Try.pinned (OpenSpec.ofChange fnExactRepListWrong)

/-- 'laws.FnExactWorldAgree': WHATEVER THE INPUT: true; the input reads as it did. -/
def fnExactWorldAgreeSpec : ChangeSpec := { name := "fnExactWorldAgree", fn := fun _ => fun
  | [d] => { results := [.lit (.bool true)], args := [d] }
  | _ => none }
def fnExactWorldAgreeRow : OpenClaim := { program := "ytphlnihmfgmecaa", sum := "acb8382e6abcd9d0ae8b5436ed167df14eb3787ff49ab084f86942d49b24126c", func := "loop.example/wapentake/laws.FnExactWorldAgree", spec := "fnExactWorldAgree", unfollowed := true, recurses := true, apart := false }
def FnExactWorldAgreeSaid : Prop := fnExactWorldAgreeRow.holds Try.pinned (OpenSpec.ofChange fnExactWorldAgreeSpec)

/-- ITS FALSE NEIGHBOUR: 'it returns false'. Refute it at one input. -/
def fnExactWorldAgreeWrong : ChangeSpec := { name := "fnExactWorldAgree", fn := fun _ => fun
  | [d] => { results := [.lit (.bool false)], args := [d] }
  | _ => none }
def FnExactWorldAgreeWrongFalsely : Prop := fnExactWorldAgreeRow.holds Try.pinned (OpenSpec.ofChange fnExactWorldAgreeWrong)

/-- 'laws.FnClaims': WHATEVER THE INPUT: true; the input reads as it did. -/
def fnClaimsSpec : ChangeSpec := { name := "fnClaims", fn := fun _ => fun
  | [d1, d2] => { results := [.lit (.bool true)], args := [d1, d2] }
  | _ => none }
def fnClaimsRow : OpenClaim := { program := "ytphlnihmfgmecaa", sum := "acb8382e6abcd9d0ae8b5436ed167df14eb3787ff49ab084f86942d49b24126c", func := "loop.example/wapentake/laws.FnClaims", spec := "fnClaims", unfollowed := true, recurses := true, apart := false }
def FnClaimsSaid : Prop := fnClaimsRow.holds Try.pinned (OpenSpec.ofChange fnClaimsSpec)

/-- ITS FALSE NEIGHBOUR: 'it returns false'. Refute it at one input. -/
def fnClaimsWrong : ChangeSpec := { name := "fnClaims", fn := fun _ => fun
  | [d1, d2] => { results := [.lit (.bool false)], args := [d1, d2] }
  | _ => none }
def FnClaimsWrongFalsely : Prop := fnClaimsRow.holds Try.pinned (OpenSpec.ofChange fnClaimsWrong)

/-- 'laws.FnVotesOk': WHATEVER THE INPUT: true; the input reads as it did. -/
def fnVotesOkSpec : ChangeSpec := { name := "fnVotesOk", fn := fun _ => fun
  | [d1, d2] => { results := [.lit (.bool true)], args := [d1, d2] }
  | _ => none }
def fnVotesOkRow : OpenClaim := { program := "ytphlnihmfgmecaa", sum := "acb8382e6abcd9d0ae8b5436ed167df14eb3787ff49ab084f86942d49b24126c", func := "loop.example/wapentake/laws.FnVotesOk", spec := "fnVotesOk", unfollowed := true, recurses := true, apart := false }
def FnVotesOkSaid : Prop := fnVotesOkRow.holds Try.pinned (OpenSpec.ofChange fnVotesOkSpec)

/-- ITS FALSE NEIGHBOUR: 'it returns false'. Refute it at one input. -/
def fnVotesOkWrong : ChangeSpec := { name := "fnVotesOk", fn := fun _ => fun
  | [d1, d2] => { results := [.lit (.bool false)], args := [d1, d2] }
  | _ => none }
def FnVotesOkWrongFalsely : Prop := fnVotesOkRow.holds Try.pinned (OpenSpec.ofChange fnVotesOkWrong)

/- THE SECOND FORM. 'bulk': how many values and letters a reading holds, each counted each time it is reached (what is shared counts as often as it is met; a slice's spare places count too). A statement '..UptoSaid' is the law's where the arguments, and the package variables that the reading takes, are together of bulk at most 1048576: NARROWER than '..Said'. Prove '..Said' where nothing that the law and all that it calls make is longer than what came in: it says more and counts as full. Else prove '..UptoSaid'. A law counts once. -/
mutual
def uptoBulk {H : Type} : DataW H → Nat
  | .lit (.string bytes) => bytes.length + 1
  | .lit _ => 1
  | .nil => 1
  | .ptr d => uptoBulk d + 1
  | .slice elems spare => uptoBulkAll elems + uptoBulkAll spare + 1
  | .agg parts => uptoBulkAll parts + 1
  | .iface _ d => uptoBulk d + 1
  | .map entries => uptoBulkEntries entries + 1
  | .held _ => 1
def uptoBulkAll {H : Type} : List (DataW H) → Nat
  | [] => 0
  | d :: r => uptoBulk d + uptoBulkAll r
def uptoBulkEntries {H : Type} : List (Lit × DataW H) → Nat
  | [] => 0
  | x :: r => uptoBulkEntry x + uptoBulkEntries r
def uptoBulkEntry {H : Type} : Lit × DataW H → Nat
  | (.string bytes, d) => bytes.length + uptoBulk d + 1
  | (_, d) => uptoBulk d + 1
 end
def uptoSmall : (H : Type) → List (DataW H) → Bool := fun _ ds => decide (uptoBulkAll ds ≤ 1048576)
def OpenSpec.upto (s : _root_.Go.ChangeSpec) : _root_.Go.OpenSpec := { _root_.Go.OpenSpec.ofChange s with cond := some uptoSmall }

/-- 'laws.FnPickAll', WHERE WHAT IT READS IS OF BULK AT MOST 1048576: true; the input reads as it did. -/
def fnPickAllUptoRow : OpenClaim := { program := "ytphlnihmfgmecaa", sum := "acb8382e6abcd9d0ae8b5436ed167df14eb3787ff49ab084f86942d49b24126c", func := "loop.example/wapentake/laws.FnPickAll", spec := "fnPickAll", apart := false, narrowed := true }
def FnPickAllUptoSaid : Prop := fnPickAllUptoRow.holds Try.pinned (OpenSpec.upto fnPickAllSpec)

/-- 'laws.FnRepNew', WHERE WHAT IT READS IS OF BULK AT MOST 1048576: true; the input reads as it did. -/
def fnRepNewUptoRow : OpenClaim := { program := "ytphlnihmfgmecaa", sum := "acb8382e6abcd9d0ae8b5436ed167df14eb3787ff49ab084f86942d49b24126c", func := "loop.example/wapentake/laws.FnRepNew", spec := "fnRepNew", unfollowed := true, recurses := true, apart := false, narrowed := true }
def FnRepNewUptoSaid : Prop := fnRepNewUptoRow.holds Try.pinned (OpenSpec.upto fnRepNewSpec)

/-- 'laws.FnWorldNew', WHERE WHAT IT READS IS OF BULK AT MOST 1048576: true; the input reads as it did. -/
def fnWorldNewUptoRow : OpenClaim := { program := "ytphlnihmfgmecaa", sum := "acb8382e6abcd9d0ae8b5436ed167df14eb3787ff49ab084f86942d49b24126c", func := "loop.example/wapentake/laws.FnWorldNew", spec := "fnWorldNew", unfollowed := true, recurses := true, apart := false, narrowed := true }
def FnWorldNewUptoSaid : Prop := fnWorldNewUptoRow.holds Try.pinned (OpenSpec.upto fnWorldNewSpec)

/-- 'laws.FnMsgSame', WHERE WHAT IT READS IS OF BULK AT MOST 1048576: true; the input reads as it did. -/
def fnMsgSameUptoRow : OpenClaim := { program := "ytphlnihmfgmecaa", sum := "acb8382e6abcd9d0ae8b5436ed167df14eb3787ff49ab084f86942d49b24126c", func := "loop.example/wapentake/laws.FnMsgSame", spec := "fnMsgSame", unfollowed := true, recurses := true, apart := false, narrowed := true }
def FnMsgSameUptoSaid : Prop := fnMsgSameUptoRow.holds Try.pinned (OpenSpec.upto fnMsgSameSpec)

/-- 'laws.FnExactMsgOk', WHERE WHAT IT READS IS OF BULK AT MOST 1048576: true; the input reads as it did. -/
def fnExactMsgOkUptoRow : OpenClaim := { program := "ytphlnihmfgmecaa", sum := "acb8382e6abcd9d0ae8b5436ed167df14eb3787ff49ab084f86942d49b24126c", func := "loop.example/wapentake/laws.FnExactMsgOk", spec := "fnExactMsgOk", unfollowed := true, recurses := true, apart := false, narrowed := true }
def FnExactMsgOkUptoSaid : Prop := fnExactMsgOkUptoRow.holds Try.pinned (OpenSpec.upto fnExactMsgOkSpec)

/-- 'laws.FnExactPickAll', WHERE WHAT IT READS IS OF BULK AT MOST 1048576: true; the input reads as it did. -/
def fnExactPickAllUptoRow : OpenClaim := { program := "ytphlnihmfgmecaa", sum := "acb8382e6abcd9d0ae8b5436ed167df14eb3787ff49ab084f86942d49b24126c", func := "loop.example/wapentake/laws.FnExactPickAll", spec := "fnExactPickAll", apart := false, narrowed := true }
def FnExactPickAllUptoSaid : Prop := fnExactPickAllUptoRow.holds Try.pinned (OpenSpec.upto fnExactPickAllSpec)

/-- 'laws.FnExactClaimReady', WHERE WHAT IT READS IS OF BULK AT MOST 1048576: true; the input reads as it did. -/
def fnExactClaimReadyUptoRow : OpenClaim := { program := "ytphlnihmfgmecaa", sum := "acb8382e6abcd9d0ae8b5436ed167df14eb3787ff49ab084f86942d49b24126c", func := "loop.example/wapentake/laws.FnExactClaimReady", spec := "fnExactClaimReady", unfollowed := true, recurses := true, apart := false, narrowed := true }
def FnExactClaimReadyUptoSaid : Prop := fnExactClaimReadyUptoRow.holds Try.pinned (OpenSpec.upto fnExactClaimReadySpec)

/-- 'laws.FnExactRepOk', WHERE WHAT IT READS IS OF BULK AT MOST 1048576: true; the input reads as it did. -/
def fnExactRepOkUptoRow : OpenClaim := { program := "ytphlnihmfgmecaa", sum := "acb8382e6abcd9d0ae8b5436ed167df14eb3787ff49ab084f86942d49b24126c", func := "loop.example/wapentake/laws.FnExactRepOk", spec := "fnExactRepOk", unfollowed := true, recurses := true, apart := false, narrowed := true }
def FnExactRepOkUptoSaid : Prop := fnExactRepOkUptoRow.holds Try.pinned (OpenSpec.upto fnExactRepOkSpec)

/-- 'laws.FnExactVotesOk', WHERE WHAT IT READS IS OF BULK AT MOST 1048576: true; the input reads as it did. -/
def fnExactVotesOkUptoRow : OpenClaim := { program := "ytphlnihmfgmecaa", sum := "acb8382e6abcd9d0ae8b5436ed167df14eb3787ff49ab084f86942d49b24126c", func := "loop.example/wapentake/laws.FnExactVotesOk", spec := "fnExactVotesOk", unfollowed := true, recurses := true, apart := false, narrowed := true }
def FnExactVotesOkUptoSaid : Prop := fnExactVotesOkUptoRow.holds Try.pinned (OpenSpec.upto fnExactVotesOkSpec)

/-- 'laws.FnExactWorldOk', WHERE WHAT IT READS IS OF BULK AT MOST 1048576: true; the input reads as it did. -/
def fnExactWorldOkUptoRow : OpenClaim := { program := "ytphlnihmfgmecaa", sum := "acb8382e6abcd9d0ae8b5436ed167df14eb3787ff49ab084f86942d49b24126c", func := "loop.example/wapentake/laws.FnExactWorldOk", spec := "fnExactWorldOk", unfollowed := true, recurses := true, apart := false, narrowed := true }
def FnExactWorldOkUptoSaid : Prop := fnExactWorldOkUptoRow.holds Try.pinned (OpenSpec.upto fnExactWorldOkSpec)

/-- 'laws.FnExactRepList', WHERE WHAT IT READS IS OF BULK AT MOST 1048576: true; the input reads as it did. -/
def fnExactRepListUptoRow : OpenClaim := { program := "ytphlnihmfgmecaa", sum := "acb8382e6abcd9d0ae8b5436ed167df14eb3787ff49ab084f86942d49b24126c", func := "loop.example/wapentake/laws.FnExactRepList", spec := "fnExactRepList", unfollowed := true, recurses := true, apart := false, narrowed := true }
def FnExactRepListUptoSaid : Prop := fnExactRepListUptoRow.holds Try.pinned (OpenSpec.upto fnExactRepListSpec)

/-- 'laws.FnExactWorldAgree', WHERE WHAT IT READS IS OF BULK AT MOST 1048576: true; the input reads as it did. -/
def fnExactWorldAgreeUptoRow : OpenClaim := { program := "ytphlnihmfgmecaa", sum := "acb8382e6abcd9d0ae8b5436ed167df14eb3787ff49ab084f86942d49b24126c", func := "loop.example/wapentake/laws.FnExactWorldAgree", spec := "fnExactWorldAgree", unfollowed := true, recurses := true, apart := false, narrowed := true }
def FnExactWorldAgreeUptoSaid : Prop := fnExactWorldAgreeUptoRow.holds Try.pinned (OpenSpec.upto fnExactWorldAgreeSpec)

/-- 'laws.FnClaims', WHERE WHAT IT READS IS OF BULK AT MOST 1048576: true; the input reads as it did. -/
def fnClaimsUptoRow : OpenClaim := { program := "ytphlnihmfgmecaa", sum := "acb8382e6abcd9d0ae8b5436ed167df14eb3787ff49ab084f86942d49b24126c", func := "loop.example/wapentake/laws.FnClaims", spec := "fnClaims", unfollowed := true, recurses := true, apart := false, narrowed := true }
def FnClaimsUptoSaid : Prop := fnClaimsUptoRow.holds Try.pinned (OpenSpec.upto fnClaimsSpec)

/-- 'laws.FnVotesOk', WHERE WHAT IT READS IS OF BULK AT MOST 1048576: true; the input reads as it did. -/
def fnVotesOkUptoRow : OpenClaim := { program := "ytphlnihmfgmecaa", sum := "acb8382e6abcd9d0ae8b5436ed167df14eb3787ff49ab084f86942d49b24126c", func := "loop.example/wapentake/laws.FnVotesOk", spec := "fnVotesOk", unfollowed := true, recurses := true, apart := false, narrowed := true }
def FnVotesOkUptoSaid : Prop := fnVotesOkUptoRow.holds Try.pinned (OpenSpec.upto fnVotesOkSpec)

end Rows
end Go.Proofs.Ytphlnihmfgmecaa
