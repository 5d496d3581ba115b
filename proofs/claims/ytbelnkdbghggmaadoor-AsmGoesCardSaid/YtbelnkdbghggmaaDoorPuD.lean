/- The law's example answers. -/
import Derived.Test.YtbelnkdbghggmaaDoorPuC
import Derived.Test.YtbelnkdbghggmaaDoorXx2
namespace Go.Proofs.YtbelnkdbghggmaaDoor.X
open Go.RowKit Go.Proofs.YtbelnkdbghggmaaDoorW.PrintWords
set_option linter.unusedVariables false
set_option linter.unusedSimpArgs false
theorem awake_val : curtilagelaw10_awake.f = some true := by decide +kernel
end Go.Proofs.YtbelnkdbghggmaaDoor.X
