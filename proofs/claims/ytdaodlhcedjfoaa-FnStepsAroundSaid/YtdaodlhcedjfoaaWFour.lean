-- Cut down, by a program of this work, to what this claim uses of the print's words: plain theorems and definitions.
import Derived.Test.YtdaodlhcedjfoaaWTab
/-! ### 56. Four, five, six operations that may come up next, in any order -/
namespace Go.Proofs.YtdaodlhcedjfoaaW.PrintLast
end Go.Proofs.YtdaodlhcedjfoaaW.PrintLast
