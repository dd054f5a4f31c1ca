/- Written by this session's own program (wip/tools/xprint.sh) for the law Ord: what the law's functions compute, and that the machine does so, given the contracts of the program's functions. -/
import Derived.Test.YtacnkcojhlbkoaaDoorJNxt26
import Derived.Test.YtacnkcojhlbkoaaDoorJNxt25
namespace Go.Proofs.YtacnkcojhlbkoaaDoor.XOrd
open Go.RowKit Go.Proofs.YtacnkcojhlbkoaaDoorW.PrintWords Go.Proofs.YtacnkcojhlbkoaaDoorW.PrintLast Go.Proofs.YtacnkcojhlbkoaaDoorW.PrintMore Go.Proofs.YtacnkcojhlbkoaaDoor.Zip
attribute [local go_sem] max2_int min2_int max_two min_two max_three min_three max_four min_four   -- for this text's walks alone
set_option linter.unusedVariables false
set_option linter.unusedSimpArgs false

/-! ### sorobanlaw05_sign: function 81 -/
/-! ### sorobanlaw05_order: function 35 -/
/-! ### sorobanlaw05_orderInt: function 34 -/
end Go.Proofs.YtacnkcojhlbkoaaDoor.XOrd
