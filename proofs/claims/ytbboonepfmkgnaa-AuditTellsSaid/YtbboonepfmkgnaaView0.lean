/- A view's cells. -/
import Derived.Test.YtbboonepfmkgnaaOwn
namespace Go.Proofs.Ytbboonepfmkgnaa
open Go Go.RowKit Lb
def vwc (v : Vw) : Array Value := #[.int .i64 v.epoch, .int .i64 v.leader, .bool v.up]
theorem vwc_size (v : Vw) : (vwc v).size = 3 := rfl
end Go.Proofs.Ytbboonepfmkgnaa
