/- The law BinaryOrder: its walk: what its calls return makes it answer true. -/
import Derived.Test.YtacnkcojhlbkoaaDoorJNxt17
import Derived.Test.YtacnkcojhlbkoaaDoorJNxt11
set_option linter.unusedSimpArgs false
set_option linter.unusedVariables false
set_option linter.unnecessarySimpa false
namespace Go.Proofs.YtacnkcojhlbkoaaDoor
open Go.RowKit Go.Proofs.YtacnkcojhlbkoaaDoorW.PrintWords Go.Proofs.YtacnkcojhlbkoaaDoorW.PrintLast Go.Proofs.YtacnkcojhlbkoaaDoorW.PrintMore Go.Proofs.YtacnkcojhlbkoaaDoor.NL
set_option maxRecDepth 100000
set_option exponentiation.threshold 33000

end Go.Proofs.YtacnkcojhlbkoaaDoor
