-- Cut down, by a program of this work, to what this claim uses of the print's words: plain theorems and definitions.
import Derived.Test.YtdaodlhcedjfoaaWApart
import Derived.Test.YtdaodlhcedjfoaaWArr
/-! ### 42. append(v, make([]T, n)...): the operation comes as_ append with the number in the second place -/
namespace Go.Proofs.YtdaodlhcedjfoaaW.PrintWords
open Go.RowKit
namespace Kd
/-! #### the same for rows whose elements lie apart -/
end Kd
end Go.Proofs.YtdaodlhcedjfoaaW.PrintWords
