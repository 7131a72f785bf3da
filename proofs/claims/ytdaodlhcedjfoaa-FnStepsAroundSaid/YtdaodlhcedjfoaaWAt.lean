-- Cut down, by a program of this work, to what this claim uses of the print's words: plain theorems and definitions.
import Derived.Test.YtdaodlhcedjfoaaWFootNe
/-! ### 54. Behind orders that were drawn quietly: the same facts at the world's new name; a flat row's foot -/
namespace Go.Proofs.YtdaodlhcedjfoaaW.PrintWords
open Go.RowKit
end Go.Proofs.YtdaodlhcedjfoaaW.PrintWords
