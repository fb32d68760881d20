-- Those of the words that the kit's print.sh wrote for this seat that its texts need; cut by wip/tools/trim_words.py.
import Derived.Test.YtgobffgogmnmpaaDoorWInv
import Derived.Test.YtgobffgogmnmpaaDoorWFootNe
namespace Go.Proofs.YtgobffgogmnmpaaDoorW.PrintWords
open Go.RowKit
end Go.Proofs.YtgobffgogmnmpaaDoorW.PrintWords
namespace Go.Proofs.YtgobffgogmnmpaaDoorW.PrintLast
section
variable {ops : Array Oper} {a : Act} {o og : Oper} {g : Nat} {t : Tmp} {u : Bool}
end
end Go.Proofs.YtgobffgogmnmpaaDoorW.PrintLast
