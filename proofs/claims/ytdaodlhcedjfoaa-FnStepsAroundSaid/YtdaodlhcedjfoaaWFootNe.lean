-- Cut down, by a program of this work, to what this claim uses of the print's words: plain theorems and definitions.
import Derived.Test.YtdaodlhcedjfoaaWN
/-! ### 52. A row that stays read whatever happens to a block (a set of blocks) doesn't lie there -/
namespace Go.Proofs.YtdaodlhcedjfoaaW.PrintWords
open Go.RowKit
end Go.Proofs.YtdaodlhcedjfoaaW.PrintWords
