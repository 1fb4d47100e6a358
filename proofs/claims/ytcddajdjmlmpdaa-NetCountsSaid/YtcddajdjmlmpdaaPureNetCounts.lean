/- The pure statement of NetCounts. -/
import Derived.Test.YtcddajdjmlmpdaaPrK
import Derived.Test.YtcddajdjmlmpdaaMaNetCounts
import Derived.Test.YtcddajdjmlmpdaaPureW
import Derived.Test.YtcddajdjmlmpdaaStmNetCounts
import Derived.Test.YtcddajdjmlmpdaaPureW
namespace Go.Proofs.Ytcddajdjmlmpdaa.Pure
open Go.RowKit Go.Proofs.Ytcddajdjmlmpdaa.Print Go.Proofs.YtcddajdjmlmpdaaW.PrintWords
set_option linter.unusedVariables false
theorem NetCounts : mosaiclaw21_NetCounts.Pure := by
  unfold mosaiclaw21_NetCounts.Pure
  intro l0 w0
  unfold mosaiclaw21_NetCounts.f
  exact if_pos fun x hx => wf64 (w0.2 x hx).2.1
end Go.Proofs.Ytcddajdjmlmpdaa.Pure
