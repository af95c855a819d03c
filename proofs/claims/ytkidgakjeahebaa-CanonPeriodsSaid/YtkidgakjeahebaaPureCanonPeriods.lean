/- Proved here: the Go function sackbutlaw02.CanonPeriods returns true for every input (its printed form comes to true), whatever its arguments. Conditions: none beyond the row's own reach in memory. -/
import Derived.Test.YtkidgakjeahebaaQCanonPeriods
namespace Go.Proofs.Ytkidgakjeahebaa.Pure
theorem CanonPeriods : Go.Proofs.Ytkidgakjeahebaa.P.sackbutlaw02_CanonPeriods.Pure := Go.Proofs.Ytkidgakjeahebaa.P.CanonPeriods
end Go.Proofs.Ytkidgakjeahebaa.Pure
