/-
  From a row's condition ('laid') to the table of powers of ten.
-/
import Derived.Test.YtjhgcppjpolamaaDoorPXd
import Derived.Test.YtjhgcppjpolamaaDoorCards
import Derived.Test.YtjhgcppjpolamaaDoorTie
import Derived.Stop.LaidErr
import Derived.MakeChecks
import Derived.LaidMore
import Derived.OpenShut
import Derived.ProofKit
import Derived.Stop.Joined
import Derived.SevenTiedAt
namespace Go.Proofs.YtjhgcppjpolamaaDoor
open Go.RowKit Rg
set_option linter.unusedVariables false
set_option linter.unusedSimpArgs false
theorem i64_wf {k : Int} (h : (Lit.int .i64 k).wf = true) : I64 k := by
  simp [Lit.wf, IntKind.min, IntKind.max, IntKind.signed, IntKind.bits] at h
  unfold I64
  omega
theorem gPow : Tryd.prog.globalNamed "internal/strconv.uint64pow10" = some 0 := by kernel_rfl
theorem gPowT : (Tryd.prog.globals[0]?).map (·.type) = some 104 := by kernel_rfl
theorem tab_of {W : World} (h : laidMetH Tryd.prog Rows.fnExactPieceCheckRow.laid W) : Tab W := by
  rw [MakeChecks.laidMetH_plain _ _ _ (by kernel_rfl)] at h
  exact Go.Lib.tabIs_of_head gPow gPowT Tryd.underlying104 Tryd.underlying95 (by kernel_rfl) (by kernel_rfl) h.tail.tail
end Go.Proofs.YtjhgcppjpolamaaDoor
