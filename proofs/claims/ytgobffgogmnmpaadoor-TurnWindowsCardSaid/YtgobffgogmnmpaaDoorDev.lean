/- What Deviation and Quota answer, in the program and in the document. Conditions: none but sizes. -/
import Derived.Test.YtgobffgogmnmpaaDoorPx9
import Derived.Test.YtgobffgogmnmpaaDoorCnt
import Derived.Test.YtgobffgogmnmpaaDoorGcd
namespace Go.Proofs.YtgobffgogmnmpaaDoor.Pure
open Go.RowKit Go.Proofs.YtgobffgogmnmpaaDoor.P Go.Proofs.YtgobffgogmnmpaaDoorW.PrintWords Go.Proofs.YtgobffgogmnmpaaDoorW.PrintLast Go.Proofs.YtgobffgogmnmpaaDoorW.PrintMore

end Go.Proofs.YtgobffgogmnmpaaDoor.Pure
