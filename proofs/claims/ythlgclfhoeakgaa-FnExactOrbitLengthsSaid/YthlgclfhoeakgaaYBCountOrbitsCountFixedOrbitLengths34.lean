/- Texts of one chain, in build order. -/
import Derived.Test.YthlgclfhoeakgaaYBCountOrbitsCountFixedOrbitLengths33
namespace Go.Proofs.Ythlgclfhoeakgaa.L
open Go.RowKit Go.Proofs.Ythlgclfhoeakgaa Go.Proofs.Ythlgclfhoeakgaa.P Go.Proofs.YthlgclfhoeakgaaW.PrintWords Go.Proofs.YthlgclfhoeakgaaW.PrintLast Go.Proofs.YthlgclfhoeakgaaW.PrintMore
set_option maxRecDepth 100000
theorem oc5_es : esX 5 = ocEL 5 := by decide +kernel
theorem oc5_len : (ocC 5).length ≤ 429 ∧ (ocP 5).length = (ocC 5).length := by decide +kernel
end Go.Proofs.Ythlgclfhoeakgaa.L
