-- Those of the words that the kit's print.sh wrote for this seat that its texts need; cut by wip/tools/trim_words.py.
import Derived.Test.YtgobffgogmnmpaaDoorWTab
namespace Go.Proofs.YtgobffgogmnmpaaDoorW.PrintLast
section
variable {P : Program} {ops : Array Oper} {Q : Exit → Act → World → Prop} {md : Region.Mode} {S : World → Prop} {ds : List Nat} {T : Bool × List (List Nat × List Nat)}
end
end Go.Proofs.YtgobffgogmnmpaaDoorW.PrintLast
