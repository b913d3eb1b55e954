/- Chapter 28: the law's helper works returns true. -/
import Derived.Test.YtglpoiaedkoecaaDoorD1
namespace Go.Proofs.YtglpoiaedkoecaaDoor.Am
open Go.RowKit
set_option maxRecDepth 100000

theorem works_ok : FnOk Pg g0 25 [] (.bool true) := FnOk.of_run env1_ok mixed (n := 100000) rfl (by kernel_rfl)

end Go.Proofs.YtglpoiaedkoecaaDoor.Am
