/- Mb. -/
import Derived.Test.YtehdhmhpmkkneaaBPAllx0
/- A number, a truth, or a sign: the printed text of one function alone. -/
namespace Go.Proofs.Ytehdhmhpmkkneaa.PAll
open Go.RowKit Go.Proofs.YtehdhmhpmkkneaaW.PrintWords Go.Proofs.YtehdhmhpmkkneaaW.PrintLast Go.Proofs.YtehdhmhpmkkneaaW.PrintMore
attribute [local go_sem] max2_int min2_int max_two min_two max_three min_three max_four min_four   -- for this text's walks alone
set_option linter.unusedVariables false
set_option linter.unusedSimpArgs false
/-! ### symfile_basic: function 92 -/
end Go.Proofs.Ytehdhmhpmkkneaa.PAll
