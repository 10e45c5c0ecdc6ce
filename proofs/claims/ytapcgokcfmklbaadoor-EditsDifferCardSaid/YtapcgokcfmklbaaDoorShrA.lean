/-
  Shares: a part of the table. No program in sight. Conditions: none.
-/
import Derived.Test.YtapcgokcfmklbaaDoorShr
namespace Go.Proofs.YtapcgokcfmklbaaDoor
open Go Go.RowKit

set_option maxRecDepth 1000000 in
set_option maxHeartbeats 0 in
theorem rowsA : ((List.range 36).all fun i => rowOK (0 + i)) = true := by decide +kernel
end Go.Proofs.YtapcgokcfmklbaaDoor
