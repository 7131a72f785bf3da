-- Cut down, by a program of this work, to what this claim uses of the print's words: plain theorems and definitions.
import Derived.Test.YtdaodlhcedjfoaaWInv
import Derived.Test.YtdaodlhcedjfoaaWFootNe
namespace Go.Proofs.YtdaodlhcedjfoaaW.PrintWords
open Go.RowKit
end Go.Proofs.YtdaodlhcedjfoaaW.PrintWords
namespace Go.Proofs.YtdaodlhcedjfoaaW.PrintLast
end Go.Proofs.YtdaodlhcedjfoaaW.PrintLast
