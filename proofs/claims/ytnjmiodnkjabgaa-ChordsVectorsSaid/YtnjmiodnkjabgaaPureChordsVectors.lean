/- Proved here: the Go function sackbutlaw01.ChordsVectors returns true for every input (its printed form comes to true), whatever its arguments. Conditions: none beyond the row's own reach in memory. -/
import Derived.Test.YtnjmiodnkjabgaaQChordsVectors
namespace Go.Proofs.Ytnjmiodnkjabgaa.Pure
theorem ChordsVectors : Go.Proofs.Ytnjmiodnkjabgaa.P.sackbutlaw01_ChordsVectors.Pure := Go.Proofs.Ytnjmiodnkjabgaa.P.ChordsVectors
end Go.Proofs.Ytnjmiodnkjabgaa.Pure
