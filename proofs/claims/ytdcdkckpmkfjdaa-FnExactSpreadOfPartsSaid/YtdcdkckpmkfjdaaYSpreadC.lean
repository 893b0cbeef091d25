/- A closed fact of the row of the law FnExactSpreadOfParts. -/
import Derived.Test.YtdcdkckpmkfjdaaRows
import Derived.JoinedOf
import Derived.KernelRfl
namespace Go.Proofs.Ytdcdkckpmkfjdaa.fnExactSpreadOfParts
open Go.ChangeShapes Go.WideShapes
theorem closed9 : joinedFacts Try.pinned.checked.prog 9 Try.f9 Rows.fnExactSpreadOfPartsSpec Rows.fnExactSpreadOfPartsRow = true := by kernel_rfl
end Go.Proofs.Ytdcdkckpmkfjdaa.fnExactSpreadOfParts
