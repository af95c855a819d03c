/- Proved here: the Go function sackbutlaw01.ChordsSums returns true for every input (its printed form comes to true), whatever its arguments. Conditions: none beyond the row's own reach in memory. -/
import Derived.Test.YtnjmiodnkjabgaaQChordsSums
namespace Go.Proofs.Ytnjmiodnkjabgaa.Pure
theorem ChordsSums : Go.Proofs.Ytnjmiodnkjabgaa.P.sackbutlaw01_ChordsSums.Pure := Go.Proofs.Ytnjmiodnkjabgaa.P.ChordsSums
end Go.Proofs.Ytnjmiodnkjabgaa.Pure
