-- Those of the words that the kit's print.sh wrote for this seat that its texts need; cut by wip/tools/trim_words.py.
import Derived.Test.YtfopdfolbdmnjaaWInv
import Derived.Test.YtfopdfolbdmnjaaWFootNe
namespace Go.Proofs.YtfopdfolbdmnjaaW.PrintWords
open Go.RowKit
end Go.Proofs.YtfopdfolbdmnjaaW.PrintWords
namespace Go.Proofs.YtfopdfolbdmnjaaW.PrintLast
section
variable {ops : Array Oper} {a : Act} {o og : Oper} {g : Nat} {t : Tmp} {u : Bool}
end
end Go.Proofs.YtfopdfolbdmnjaaW.PrintLast
