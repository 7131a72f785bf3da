-- Cut down, by a program of this work, to what this claim uses of the print's words: plain theorems and definitions.
import Derived.Test.YtdaodlhcedjfoaaWWords
import Derived.Laws.StructEq
/-! ### 53. '==' of structs as_ one Bool -/
namespace Go.Proofs.YtdaodlhcedjfoaaW.PrintWords
open Go.RowKit
end Go.Proofs.YtdaodlhcedjfoaaW.PrintWords
