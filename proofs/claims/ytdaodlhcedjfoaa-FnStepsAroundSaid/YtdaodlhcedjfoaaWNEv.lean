-- Cut down, by a program of this work, to what this claim uses of the print's words: plain theorems and definitions.
import Derived.Test.YtdaodlhcedjfoaaWN
/-! ### 48. N's events: append, a whole row appended, zeros appended, literals, make, stores, cuts, an element taken out -/
namespace Go.Proofs.YtdaodlhcedjfoaaW.PrintWords
open Go.RowKit
end Go.Proofs.YtdaodlhcedjfoaaW.PrintWords
