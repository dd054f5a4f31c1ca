/- Written by this session's own program (wip/tools/xprint.sh) for the law Ar: what the law's functions compute, and that the machine does so, given the contracts of the program's functions. -/
import Derived.Test.YtacnkcojhlbkoaaDoorJNxt23
namespace Go.Proofs.YtacnkcojhlbkoaaDoor.XAr
open Go.RowKit Go.Proofs.YtacnkcojhlbkoaaDoorW.PrintWords Go.Proofs.YtacnkcojhlbkoaaDoorW.PrintLast Go.Proofs.YtacnkcojhlbkoaaDoorW.PrintMore
attribute [local go_sem] max2_int min2_int max_two min_two max_three min_three max_four min_four   -- for this text's walks alone
set_option linter.unusedVariables false
set_option linter.unusedSimpArgs false

/-! ### sorobanref05_Format: function 47 -/
/-! ### sorobanref01_at: function 95 -/
/-! ### sorobanref01_Add: function 50 -/
/-! ### sorobanref05_Field: function 59 -/
/-! ### sorobanref01_Of: function 64 -/
/-! ### sorobanref01_Cmp: function 82 -/
/-! ### sorobanref01_Sub: function 94 -/
/-! ### sorobanref01_Bit: function 55 -/
/-! ### sorobanref05_word: function 52 -/
/-! ### sorobanref05_IsFormat: function 17 -/
/-! ### sorobanref05_below: function 48 -/
/-! ### sorobanref01_Shr: function 58 -/
end Go.Proofs.YtacnkcojhlbkoaaDoor.XAr
