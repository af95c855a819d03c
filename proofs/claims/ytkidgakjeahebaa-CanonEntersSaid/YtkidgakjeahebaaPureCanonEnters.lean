/- Proved here: the Go function sackbutlaw02.CanonEnters returns true for every input (its printed form comes to true), whatever its arguments. Conditions: none beyond the row's own reach in memory. -/
import Derived.Test.YtkidgakjeahebaaQCanonEnters
namespace Go.Proofs.Ytkidgakjeahebaa.Pure
theorem CanonEnters : Go.Proofs.Ytkidgakjeahebaa.P.sackbutlaw02_CanonEnters.Pure := Go.Proofs.Ytkidgakjeahebaa.P.CanonEnters
end Go.Proofs.Ytkidgakjeahebaa.Pure
