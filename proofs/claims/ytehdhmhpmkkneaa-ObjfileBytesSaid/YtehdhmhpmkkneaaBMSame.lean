/- MSame. -/
import Derived.Lib.Hide
import Derived.Test.YtehdhmhpmkkneaaBMKey
import Derived.Test.YtehdhmhpmkkneaaBPAllx12
import Derived.RegionTactic
import Derived.ChangeAlike
import Derived.Test.YtehdhmhpmkkneaaBPAllx2
import Derived.Test.YtehdhmhpmkkneaaBPAllx1
import Derived.Test.YtehdhmhpmkkneaaBMSym2
/- The texts Sc, Qa, Qb, Qc, one behind the other. -/
/- Which lists of exports are the same: the document's Same. -/
namespace Go.Proofs.Ytehdhmhpmkkneaa
open Go.RowKit Go.Proofs.YtehdhmhpmkkneaaW.PrintWords Go.Proofs.Ytehdhmhpmkkneaa.PAll
end Go.Proofs.Ytehdhmhpmkkneaa
/- finger.Same, walked. -/
namespace Go.Proofs.Ytehdhmhpmkkneaa
open Go.RowKit Go.Proofs.YtehdhmhpmkkneaaW.PrintWords Go.Proofs.YtehdhmhpmkkneaaW.PrintLast Go.Proofs.YtehdhmhpmkkneaaW.PrintMore Go.Proofs.Ytehdhmhpmkkneaa.PAll
attribute [local go_sem high] eqA119
end Go.Proofs.Ytehdhmhpmkkneaa
/- Which imports are the same, and which files: walked. -/
namespace Go.Proofs.Ytehdhmhpmkkneaa
open Go.RowKit Go.Proofs.YtehdhmhpmkkneaaW.PrintWords Go.Proofs.YtehdhmhpmkkneaaW.PrintLast Go.Proofs.YtehdhmhpmkkneaaW.PrintMore Go.Proofs.Ytehdhmhpmkkneaa.PAll
attribute [local go_sem high] eqA93
end Go.Proofs.Ytehdhmhpmkkneaa
/- Whether a file is the document's, and whether two are alike: walked. -/
namespace Go.Proofs.Ytehdhmhpmkkneaa
open Go.RowKit Go.Proofs.YtehdhmhpmkkneaaW.PrintWords Go.Proofs.YtehdhmhpmkkneaaW.PrintLast Go.Proofs.YtehdhmhpmkkneaaW.PrintMore Go.Proofs.Ytehdhmhpmkkneaa.PAll
attribute [local go_sem high] eqA93
end Go.Proofs.Ytehdhmhpmkkneaa
