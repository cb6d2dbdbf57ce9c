/-
  The structs that are data: their kinds (written by kkinds.py).
-/
import Derived.Test.YtcacohoanlljhaaDoorMA
import Derived.Test.YtcacohoanlljhaaDoorProg
namespace Go.Proofs.YtcacohoanlljhaaDoorT
set_option linter.unusedVariables false
set_option linter.unusedSimpArgs false
open Go.RowKit Go.Proofs.YtcacohoanlljhaaDoorK Go.ChangeShapes Go.WideShapes

end Go.Proofs.YtcacohoanlljhaaDoorT
