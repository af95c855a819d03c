/- Proved here: the Go function sackbutlaw01.ChordsOthers returns true for every input (its printed form comes to true), whatever its arguments. Conditions: none beyond the row's own reach in memory. -/
import Derived.Test.YtnjmiodnkjabgaaQChordsOthers
namespace Go.Proofs.Ytnjmiodnkjabgaa.Pure
theorem ChordsOthers : Go.Proofs.Ytnjmiodnkjabgaa.P.sackbutlaw01_ChordsOthers.Pure := Go.Proofs.Ytnjmiodnkjabgaa.P.ChordsOthers
end Go.Proofs.Ytnjmiodnkjabgaa.Pure
