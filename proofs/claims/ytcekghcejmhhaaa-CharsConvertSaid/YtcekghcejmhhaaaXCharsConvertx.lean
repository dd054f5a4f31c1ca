/- Written by this session's own program (wip/tools/xprint.sh) for the law CharsConvert: what the law's functions compute, and that the machine does so, given the contracts of the program's functions. -/
import Derived.Test.YtcekghcejmhhaaaXCharsConvertx0
import Derived.Test.YtcekghcejmhhaaaXCharsConvertx1
namespace Go.Proofs.Ytcekghcejmhhaaa.XCharsConvert
open Go.RowKit Go.Proofs.YtcekghcejmhhaaaW.PrintWords Go.Proofs.YtcekghcejmhhaaaW.PrintLast Go.Proofs.YtcekghcejmhhaaaW.PrintMore
attribute [local go_sem] max2_int min2_int max_two min_two max_three min_three max_four min_four   -- for this text's walks alone
set_option linter.unusedVariables false
set_option linter.unusedSimpArgs false

end Go.Proofs.Ytcekghcejmhhaaa.XCharsConvert
