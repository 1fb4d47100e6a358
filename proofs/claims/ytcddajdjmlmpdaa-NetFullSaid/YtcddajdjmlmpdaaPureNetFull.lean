/- The pure statement of NetFull. -/
import Derived.Test.YtcddajdjmlmpdaaPrK
import Derived.Test.YtcddajdjmlmpdaaMaNetFull
import Derived.Test.YtcddajdjmlmpdaaPureW
import Derived.Test.YtcddajdjmlmpdaaStmNetFull
import Derived.Test.YtcddajdjmlmpdaaPureW
namespace Go.Proofs.Ytcddajdjmlmpdaa.Pure
open Go.RowKit Go.Proofs.Ytcddajdjmlmpdaa.Print Go.Proofs.YtcddajdjmlmpdaaW.PrintWords
set_option linter.unusedVariables false
theorem NetFull : mosaiclaw21_NetFull.Pure := by
  unfold mosaiclaw21_NetFull.Pure
  intro a0 a1 w0 w1
  unfold mosaiclaw21_NetFull.f
  exact if_pos ⟨wf64 w0, wf64 w1⟩
end Go.Proofs.Ytcddajdjmlmpdaa.Pure
