/- Proved here: the Go function sackbutlaw05.RowsSteps returns true for every input (its printed form comes to true), whatever its arguments. Conditions: none beyond the row's own reach in memory. -/
import Derived.Test.YtpfjnpbcnlbhaaaQRowsSteps
namespace Go.Proofs.Ytpfjnpbcnlbhaaa.Pure
theorem RowsSteps : Go.Proofs.Ytpfjnpbcnlbhaaa.P.sackbutlaw05_RowsSteps.Pure := Go.Proofs.Ytpfjnpbcnlbhaaa.P.RowsSteps
end Go.Proofs.Ytpfjnpbcnlbhaaa.Pure
