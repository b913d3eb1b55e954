/- Chapter 04: the examples hold (run by the machine). -/
import Derived.Test.YtgdnmgcigkhojaaS0
namespace Go.Proofs.Ytgdnmgcigkhojaa.Am
open Go.RowKit
set_option linter.unusedVariables false
set_option maxHeartbeats 1000000
set_option maxRecDepth 100000

theorem works_ok : FnOk Pg g0 8 [] (.bool true) := FnOk.of_run vE_ok mixed (n := 100000) rfl (by kernel_rfl)
end Go.Proofs.Ytgdnmgcigkhojaa.Am
