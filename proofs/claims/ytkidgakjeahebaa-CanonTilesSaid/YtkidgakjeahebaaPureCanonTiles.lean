/- Proved here: the Go function sackbutlaw02.CanonTiles returns true for every input (its printed form comes to true), whatever its arguments. Conditions: none beyond the row's own reach in memory. -/
import Derived.Test.YtkidgakjeahebaaQCanonTiles
namespace Go.Proofs.Ytkidgakjeahebaa.Pure
theorem CanonTiles : Go.Proofs.Ytkidgakjeahebaa.P.sackbutlaw02_CanonTiles.Pure := Go.Proofs.Ytkidgakjeahebaa.P.CanonTiles
end Go.Proofs.Ytkidgakjeahebaa.Pure
