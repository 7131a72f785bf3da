-- Cut down, by a program of this work, to what this claim uses of the print's words: plain theorems and definitions.
import Derived.Test.YtgoldeagghadhaaWInv
import Derived.Test.YtgoldeagghadhaaWFootNe
namespace Go.Proofs.YtgoldeagghadhaaW.PrintWords
open Go.RowKit
end Go.Proofs.YtgoldeagghadhaaW.PrintWords
namespace Go.Proofs.YtgoldeagghadhaaW.PrintLast
section
variable {ops : Array Oper} {a : Act} {o og : Oper} {g : Nat} {t : Tmp} {u : Bool}
end
end Go.Proofs.YtgoldeagghadhaaW.PrintLast
