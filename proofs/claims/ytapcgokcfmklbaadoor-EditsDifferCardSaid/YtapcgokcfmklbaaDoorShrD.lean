/-
  Shares: a part of the table. No program in sight. Conditions: none.
-/
import Derived.Test.YtapcgokcfmklbaaDoorShr
namespace Go.Proofs.YtapcgokcfmklbaaDoor
open Go Go.RowKit

set_option maxRecDepth 1000000 in
set_option maxHeartbeats 0 in
theorem rowsD : ((List.range 125).all fun i => rowOK (126 + i)) = true := by decide +kernel
end Go.Proofs.YtapcgokcfmklbaaDoor
