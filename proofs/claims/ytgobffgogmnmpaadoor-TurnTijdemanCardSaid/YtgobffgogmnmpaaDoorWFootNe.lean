-- Those of the words that the kit's print.sh wrote for this seat that its texts need; cut by wip/tools/trim_words.py.
import Derived.Test.YtgobffgogmnmpaaDoorWN
namespace Go.Proofs.YtgobffgogmnmpaaDoorW.PrintWords
open Go.RowKit
namespace Kd
section
variable {α : Type} {d : Kd α} {W : World} {g n : Nat} {S ok : Nat → Prop} {A : Option Addr} {ad : Addr} {xs : List α}
end
end Kd
end Go.Proofs.YtgobffgogmnmpaaDoorW.PrintWords
