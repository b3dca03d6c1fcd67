/- Mi. -/
import Derived.Test.YtehdhmhpmkkneaaBPAllx0
/- Two facts on types: a four-byte number's and a segment's place in memory. -/
namespace Go.Proofs.Ytehdhmhpmkkneaa.PAll
open Go.RowKit
end Go.Proofs.Ytehdhmhpmkkneaa.PAll
