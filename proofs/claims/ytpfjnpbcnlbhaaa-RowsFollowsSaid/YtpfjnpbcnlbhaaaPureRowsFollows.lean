/- Proved here: the Go function sackbutlaw05.RowsFollows returns true for every input (its printed form comes to true), whatever its arguments. Conditions: none beyond the row's own reach in memory. -/
import Derived.Test.YtpfjnpbcnlbhaaaQRowsFollows
namespace Go.Proofs.Ytpfjnpbcnlbhaaa.Pure
theorem RowsFollows : Go.Proofs.Ytpfjnpbcnlbhaaa.P.sackbutlaw05_RowsFollows.Pure := Go.Proofs.Ytpfjnpbcnlbhaaa.P.RowsFollows
end Go.Proofs.Ytpfjnpbcnlbhaaa.Pure
