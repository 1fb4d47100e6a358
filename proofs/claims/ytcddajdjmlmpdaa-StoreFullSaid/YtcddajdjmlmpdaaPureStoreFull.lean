/- The pure statement of StoreFull. -/
import Derived.Test.YtcddajdjmlmpdaaPrK
import Derived.Test.YtcddajdjmlmpdaaMaStoreFull
import Derived.Test.YtcddajdjmlmpdaaPureW
import Derived.Test.YtcddajdjmlmpdaaStmStoreFull
import Derived.Test.YtcddajdjmlmpdaaPureW
namespace Go.Proofs.Ytcddajdjmlmpdaa.Pure
open Go.RowKit Go.Proofs.Ytcddajdjmlmpdaa.Print Go.Proofs.YtcddajdjmlmpdaaW.PrintWords
set_option linter.unusedVariables false
theorem StoreFull : mosaiclaw14_StoreFull.Pure := by
  unfold mosaiclaw14_StoreFull.Pure
  intro a0 a1 w0 w1
  unfold mosaiclaw14_StoreFull.f
  exact if_pos ⟨wf64 w0, wf64 w1⟩
end Go.Proofs.Ytcddajdjmlmpdaa.Pure
